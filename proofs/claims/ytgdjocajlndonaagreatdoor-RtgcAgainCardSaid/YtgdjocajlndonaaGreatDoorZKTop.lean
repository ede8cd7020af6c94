/- Parts. -/
import Derived.Test.YtgdjocajlndonaaGreatDoorZGStt
import Derived.Test.YtgdjocajlndonaaGreatDoorZKLay
set_option linter.all false
open Array renaming getElem?_eq_some_iff->Ye
open List renaming append_assoc->Ym,range->Yo,map_append->Yv,mem_append->Yw,mem_cons->Yz,mem_map->Y7,map_cons->Ya4,nodup_append->Ybt
open Go.Value renaming int->Yt
open Prod renaming fst->Yan,snd->Ybd
open Int renaming toNat_natCast->Ya7,eq_ofNat_of_zero_le->Yb1
namespace Go.Proofs.YtgdjocajlndonaaGreatDoor
section
open Go.RowKit
section
variable {gw sw F:List Int}{size H half:Int}{g:S.Gr}
theorem Zzk (hI:∀ b,(S.ab b gw sw F size).Ok)(hH:(S.ab true gw sw F size).lab S.kEnd=H)(hsz:H+2*half<=size)(h0:0<=half)(hg:g.Ok H){mem:Int->Int}
 (hlaid:∀ j,j<g.ns.length->mem (g.adr j)=S.headW (g.nd j).ty (g.nd j).ws.length/\∀ (k:Nat) (x:Int×Int),(g.nd j).ws[k]?=some x->mem (g.adr j+1+k)=g.word x) (hfit:S.sizes g.ns<=half)
 {pl:List (Int×Int)} (hpl:∀ q∈pl,mem q.1=q.2/\g.fit q.2) {n0:Int} {l:List Nat} (re:S.Reached g (pl.map Ybd) n0 l) {cnt n:Nat} (m2:mem 2=H) (m3:mem 3=H+half) (m4:mem 4=half) (m8:mem 8=cnt) (c16:cnt<=16)
 (fm:(mem 6=0/\n=0)\/(mem 6=9/\n=2/\mem 9=2/\(0<=mem 10/\mem 10<4294967296)/\(0<=mem 11/\mem 11<4294967296)))
 (root:∀ x,S.RX (S.ab true gw sw F size) mem cnt n x->x∈pl.map Yan\/(0<=mem x/\mem x<4294967296/\mem x%4≠1)) (hat:∀ x∈pl.map Yan,S.RX (S.ab true gw sw F size) mem cnt n x) :
 S.an gw sw F size g H (pl.map Ybd) (pl.map Yan) mem half H (H+half) (H+S.sizes g.ns) (Yo g.ns.length) g.adr n0 l cnt n:=by
 have hs2:=(hI true).size2;have hsz2:(S.ab true gw sw F size).size=size:=rfl;have e:(pl.map Yan).map mem=pl.map Ybd:=by
  rw [List.map_map];exact List.map_congr_left fun q hq=>(hpl q hq).1
 refine ⟨⟨by rw [hH];exact hsz,h0,.inl ⟨hH.symm,by rw [hH]⟩⟩,hg,by omega,?_,fun x hx=>?_,by omega,by rw [Zfq hg];exact hfit,re,m2,m3,m4,m8,c16,fm,root,hat⟩
 ·rw [e]
  exact Zkh hg (by omega) hlaid _
 ·obtain ⟨q,hq,rfl⟩:=Y7.1 hx
  exact (hpl q hq).2
end
def S.am.q (x:S.am)(g:S.Gr):Int×Int×List (Int×Int):=S.af g x.slots x.places x.nq
def S.am.pl (x:S.am)(g:S.Gr):List (Int×Int):=S.ao g 16 x.roots x.nr++(S.ao g 1312 x.glob x.ng++(S.ao g (1312+x.ng) x.stat x.ns++((5,g.word x.sym)::(x.q g).2.2)))
def S.aa (n:Nat):List Int:=List.replicate n 0
def S.a8 (x:S.am)(g:S.Gr)(m1:S.Mach):S.Mach:=((((S.puts (m1.putV 8 x.nr) (x.pl g)).putV 9 2).putV 10 (x.q g).1).putV 11 (x.q g).2.1).putV 6 9
section
variable {g:S.Gr}{a0:Int}(hg:g.Ok a0)(hz:a0+S.sizes g.ns<=335544320){x:S.am}(hx:x.Ok)
theorem Zb3 (x:S.am):x.nr<=x.roots.length/\x.nr<=8/\x.ng<=x.glob.length/\x.ng<=6/\x.ns<=x.stat.length/\x.ns<=6/\x.nq<=x.slots.length/\x.nq<=x.places.length/\x.nq<=6:=by
 unfold S.am.nr S.am.ng S.am.ns S.am.nq;omega
include hg hz hx
theorem Zst:S.dm g (x.q g):=Zi5 hg hz hx.slots _ (Zb3 x).2.2.2.2.2.2.1
theorem Zfw (y:Int):y∈(x.pl g).map Yan↔(16<=y/\y<16+x.nr)\/(1312<=y/\y<1312+x.ng+x.ns)\/y=5\/S.dh (x.q g).1 (x.q g).2.1 y:=by
 unfold S.am.pl;rw [Yv,Yw,Zby,Yv,Yw,Zby,Yv,Yw,Zby,Ya4,Yz,(Zst hg hz hx).at_]
 constructor
 ·rintro (q | q | q | q | q)
  ·exact .inl q
  ·exact .inr (.inl (by omega))
  ·exact .inr (.inl (by omega))
  ·exact .inr (.inr (.inl q))
  ·exact .inr (.inr (.inr q))
 ·rintro (q | q | q | q)
  ·exact .inl q
  ·by_cases c:y<1312+x.ng
   ·exact .inr (.inl ⟨q.1,c⟩)
   ·exact .inr (.inr (.inl (by omega)))
  ·exact .inr (.inr (.inr (.inl q)))
  ·exact .inr (.inr (.inr (.inr q)))
theorem Zv2:((x.pl g).map Yan).Nodup:=by
 obtain ⟨h1,h2,h3,h4,h5,h6,h7,h8,h9⟩:=Zb3 x;have hq:=Zst hg hz hx;have sl:∀ y∈(x.q g).2.2.map Yan,32<=y/\y<96:=fun y hy=>Zet ((hq.at_ y).1 hy)
 unfold S.am.pl;rw [Yv,Ybt];refine ⟨Ze7 _ _ _ _,?_,fun y hy z hz e=>?_⟩
 ·rw [Yv,Ybt]
  refine ⟨Ze7 _ _ _ _,?_,fun y hy z hz e=>?_⟩
  ·rw [Yv,Ybt]
   refine ⟨Ze7 _ _ _ _,?_,fun y hy z hz e=>?_⟩
   ·rw [Ya4,List.nodup_cons]
    exact ⟨fun h=>by have:=sl _ h;simp at this,hq.nd⟩
   ·have q1:=(Zby _ _ _ _ y).1 hy
    rw [Ya4,Yz] at hz;rcases hz with rfl | hz
    ·have:y=5:=e
     omega
    ·have:=sl _ hz
     omega
  ·have q1:=(Zby _ _ _ _ y).1 hy
   rw [Yv,Yw,Zby,Ya4,Yz] at hz;rcases hz with hz | rfl | hz
   ·omega
   ·have:y=5:=e
    omega
   ·have:=sl _ hz
    omega
 ·have q1:=(Zby _ _ _ _ y).1 hy
  rw [Yv,Yw,Zby,Yv,Yw,Zby,Ya4,Yz] at hz;rcases hz with hz | hz | rfl | hz
  ·omega
  ·omega
  ·have:y=5:=e
   omega
  ·have:=sl _ hz
   omega
theorem Zfx:∀ q∈x.pl g,g.fit q.2:=fun q h=>by
 obtain ⟨h1,h2,h3,h4,h5,h6,h7,h8,h9⟩:=Zb3 x;unfold S.am.pl at h;rcases Yw.1 h with h | h
 ·exact Zlr hg hz h1 hx.roots q h
 rcases Yw.1 h with h | h
 ·exact Zlr hg hz h3 hx.glob q h
 rcases Yw.1 h with h | h
 ·exact Zlr hg hz h5 hx.stat q h
 rcases Yz.1 h with rfl | h
 ·have hw:=hx.sym
  exact Zhm hg ⟨hw.1,hw.2.1,hw.2.2.1⟩ hz
 ·exact (Zst hg hz hx).fit q h
end
section
variable {x:S.am}(hx:x.Ok){F:List Int}{H heap half:Int}(hI:∀ b,(S.ab b (S.aa x.ng) (S.aa x.ns) F (H+heap)).Ok)(hH:H=(S.ab true (S.aa x.ng) (S.aa x.ns) F (H+heap)).lab S.kEnd)(hhf:half=heap/2)(hh0:0<=heap)
 {m0:S.Mach} (hw:S.Wd (S.aa x.ng) (S.aa x.ns) F (H+heap) m0) (h2:m0.mv 2=H) (h3:m0.mv 3=H+half) (h4:m0.mv 4=half) (hfit:S.sizes (S.ac x.nodes)<=half) {g:S.Gr} (hgE:g=S.ah x.nodes H)
theorem Zh (n:Nat):(S.aa n).length=n:=List.length_replicate
include hx hI hH hhf hh0 hw h2 h3 h4 hfit hgE
theorem Zjc:g.Ok H/\H+S.sizes g.ns<=335544320/\S.sizes g.ns<=half/\1312+x.ng+x.ns+11<=H/\S.Wd (S.aa x.ng) (S.aa x.ns) F (H+heap) (S.a8 x g ((S.ag g m0).setV 26 (H+S.sizes g.ns))) /\
 (∀ j,(S.a8 x g ((S.ag g m0).setV 26 (H+S.sizes g.ns))).rd j=if j=26 then H+S.sizes g.ns else m0.rd j) /\
 (∀ j,j<g.ns.length->(S.a8 x g ((S.ag g m0).setV 26 (H+S.sizes g.ns))).mv (g.adr j)=S.headW (g.nd j).ty (g.nd j).ws.length/\∀ (k:Nat) (y:Int×Int),(g.nd j).ws[k]?=some y->(S.a8 x g ((S.ag g m0).setV 26 (H+S.sizes g.ns))).mv (g.adr j+1+k)=g.word y) /\
 (∀ q∈x.pl g,(S.a8 x g ((S.ag g m0).setV 26 (H+S.sizes g.ns))).mv q.1=q.2) /\
 (∀ y,0<=y->y<H->(S.a8 x g ((S.ag g m0).setV 26 (H+S.sizes g.ns))).mv y=if y=6 then 9 else if y=11 then (x.q g).2.1 else if y=10 then (x.q g).1 else if y=9 then 2 else if y∈(x.pl g).map Yan then (S.a8 x g ((S.ag g m0).setV 26 (H+S.sizes g.ns))).mv y else if y=8 then x.nr else m0.mv y):=by
 have he:=Zbp (hI true);rw [<- hH,Zh,Zh] at he;obtain ⟨he1,he2⟩:=he;have hs2:=(hI true).size2;have hsz2:(S.ab true (S.aa x.ng) (S.aa x.ns) F (H+heap)).size=H+heap:=rfl;rw [hsz2] at hs2;have hg:g.Ok H:=by rw [hgE];exact Zaz hx.nodes ⟨by omega,by omega⟩
 have hszE:S.sizes g.ns=S.sizes (S.ac x.nodes):=by rw [hgE];rfl
 have hfit':S.sizes g.ns<=half:=by rw [hszE];exact hfit
 have hsn:=Z7 g.ns;have hz:H+S.sizes g.ns<=335544320:=by omega
 have hml:=hw.len;have hw1:=Zpq (hI true) hg hw (by omega) (by omega) (by omega) g.ns.length (Nat.le_refl _);obtain ⟨q1,q2⟩:=Zpp hg m0 (by omega) g.ns.length (Nat.le_refl _);obtain ⟨m1,hm1⟩:=Yx (S.ag g m0);have hm1':S.puts m0 ((Yo g.ns.length).flatMap (S.ae g))=m1:=hm1.symm;have hrd1:∀ j,m1.rd j=m0.rd j:=fun j=>by rw [<- hm1',Zus]
 rw [hm1'] at q1 q2 hw1;have hw2:=Zgl (hI true) hw1 (i:=26) (v:=H+S.sizes g.ns) (by decide) (fun h=>absurd h (by decide)) ⟨by omega,by omega⟩;rw [<- hm1];obtain ⟨m2,hm2⟩:=Yx (m1.setV 26 (H+S.sizes g.ns));have hmv2:∀ y,m2.mv y=m1.mv y:=fun y=>by rw [hm2,Zcj (by decide) (by decide)]
 have hrd2:∀ j,m2.rd j=if j=26 then H+S.sizes g.ns else m0.rd j:=fun j=>by
  rw [hm2,Zbu hw1.ok (by decide) (by decide),hrd1]
 rw [<- hm2] at hw2 ⊢;have nc:∀ y:Int,y<1312+x.ng+x.ns->¬ (S.ab true (S.aa x.ng) (S.aa x.ns) F (H+heap)).code y:=fun y hy hc=>by
  have:=(Ze9 (hI true)).1 hc;rw [Zh,Zh] at this;omega
 obtain ⟨l1,l2,l3,l4,l5,l6,l7,l8,l9⟩:=Zb3 x;have hq:=Zst hg hz hx;have rng:∀ q∈x.pl g,(q.1=5\/(16<=q.1/\q.1<96)\/(1312<=q.1/\q.1<1312+x.ng+x.ns)):=fun q hqm=>by
  rcases (Zfw hg hz hx q.1).1 (Y7.2 ⟨q,hqm,rfl⟩) with h | h | h | h
  ·exact .inr (.inl (by omega))
  ·exact .inr (.inr h)
  ·exact .inl h
  ·exact .inr (.inl (by have:=Zet h;omega))
 have w8:=Zfk (hI true) hw2 (i:=8) (v:=x.nr) ⟨by omega,by omega⟩ (nc 8 (by omega)) ⟨by omega,by omega⟩;have wp:=Z0v (hI true) (pl:=x.pl g) w8 fun q hqm=>by
  have hr:=rng q hqm;have hf:=Zfx hg hz hx q hqm;exact ⟨by omega,by omega,nc _ (by omega),hf.1,by have:=hf.2.1;omega⟩
 obtain ⟨mp,hmp⟩:=Yx (S.puts (m2.putV 8 x.nr) (x.pl g));have hl8:=w8.len;have hin:∀ q∈x.pl g,mp.mv q.1=q.2:=by
  rw [hmp];exact Z0u (fun q hqm=>by have:=rng q hqm;omega) (Zv2 hg hz hx)
 have hout:∀ y,0<=y->y ∉ (x.pl g).map Yan->mp.mv y=if y=8 then (x.nr:Int) else m1.mv y:=fun y h0 h1=>by
  rw [hmp,Zq1 h0 (fun q hqm=>by have:=rng q hqm;omega) h1,Zbi (by decide) (by have:=hw2.len;omega) h0,hmv2]
 rw [<- hmp] at wp;have hrdp:∀ j,mp.rd j=m2.rd j:=fun j=>by rw [hmp,Zus,Zex]
 have p1:=Zfk (hI true) wp (i:=9) (v:=2) ⟨by omega,by omega⟩ (nc 9 (by omega)) (by decide);have p2:=Zfk (hI true) p1 (i:=10) (v:=(x.q g).1) ⟨by omega,by omega⟩ (nc 10 (by omega)) ⟨hq.b0.1,by have:=hq.b0.2;omega⟩;have p3:=Zfk (hI true) p2 (i:=11) (v:=(x.q g).2.1) ⟨by omega,by omega⟩ (nc 11 (by omega)) ⟨hq.b1.1,by have:=hq.b1.2;omega⟩;have p4:=Zfk (hI true) p3 (i:=6) (v:=9) ⟨by omega,by omega⟩ (nc 6 (by omega)) (by decide);have hM:S.a8 x g m2=(((mp.putV 9 2).putV 10 (x.q g).1).putV 11 (x.q g).2.1).putV 6 9:=by rw [hmp];rfl
 rw [hM];have hmv:∀ y,0<=y->((((mp.putV 9 2).putV 10 (x.q g).1).putV 11 (x.q g).2.1).putV 6 9).mv y=if y=6 then 9 else if y=11 then (x.q g).2.1 else if y=10 then (x.q g).1 else if y=9 then 2 else mp.mv y:=fun y hy=>by
  rw [Zbi (by decide) (by have:=p3.len;omega) hy,Zbi (by decide) (by have:=p2.len;omega) hy,Zbi (by decide) (by have:=p1.len;omega) hy,Zbi (by decide) (by have:=wp.len;omega) hy]
 have hninH:∀ y,H<=y->y ∉ (x.pl g).map Yan:=fun y hy h=>by
  obtain ⟨q,hqm,rfl⟩:=Y7.1 h;have:=rng q hqm;omega
 refine ⟨hg,hz,hfit',by omega,p4,fun j=>?_,fun j hj=>?_,fun q hqm=>?_,fun y h0 h1=>?_⟩
 ·rw [Zex,Zex,Zex,Zex,hrdp,hrd2]
 ·have hE:=Zfj hg hj
  obtain ⟨r1,r2⟩:=q1 j hj;have up:∀ y,H<=y->((((mp.putV 9 2).putV 10 (x.q g).1).putV 11 (x.q g).2.1).putV 6 9).mv y=m1.mv y:=fun y hy=>by
   rw [hmv y (by omega),if_neg (by omega),if_neg (by omega),if_neg (by omega),if_neg (by omega),hout y (by omega) (hninH y hy),if_neg (by omega)]
  exact ⟨by rw [up _ (by omega)];exact r1,fun k y hy=>by rw [up _ (by omega)];exact r2 k y hy⟩
 ·have hr:=rng q hqm
  rw [hmv _ (by omega),if_neg (by omega),if_neg (by omega),if_neg (by omega),if_neg (by omega)];exact hin q hqm
 ·rw [hmv y h0]
  by_cases c6:y=6
  ·rw [if_pos c6,if_pos c6]
  by_cases c11:y=11
  ·rw [if_neg c6,if_pos c11,if_neg c6,if_pos c11]
  by_cases c10:y=10
  ·rw [if_neg c6,if_neg c11,if_pos c10,if_neg c6,if_neg c11,if_pos c10]
  by_cases c9:y=9
  ·rw [if_neg c6,if_neg c11,if_neg c10,if_pos c9,if_neg c6,if_neg c11,if_neg c10,if_pos c9]
  by_cases cm:y∈(x.pl g).map Yan
  ·rw [if_neg c6,if_neg c11,if_neg c10,if_neg c9,if_neg c6,if_neg c11,if_neg c10,if_neg c9,if_pos cm]
  ·rw [if_neg c6,if_neg c11,if_neg c10,if_neg c9,if_neg c6,if_neg c11,if_neg c10,if_neg c9,if_neg cm,hout y h0 cm]
   by_cases c8:y=8
   ·rw [if_pos c8,if_pos c8]
   ·rw [if_neg c8,if_neg c8]
    exact q2 y h0 (by omega)
end
end
section
open Go.RowKit
theorem Ze0 (m:S.Mach)(d v:Int):(m.put d v).mem.length=m.mem.length:=by
 unfold S.Mach.put
 split <;> rfl
theorem Z1a (m:S.Mach)(i:S.Inst):(m.act i).1.mem.length=m.mem.length:=by
 obtain ⟨op,d,a,b,imm⟩:=i;unfold S.Mach.act;simp only;by_cases h1:op<=14
 ·rw [if_pos h1]
  by_cases h2:m.rd b=0/\(op=5\/op=6)
  ·rw [if_pos h2]
  ·rw [if_neg h2];exact Ze0 _ _ _
 rw [if_neg h1];by_cases h2:op<=22
 ·rw [if_pos h2];exact Ze0 _ _ _
 rw [if_neg h2];by_cases h3:op=23
 ·rw [if_pos h3];exact Ze0 _ _ _
 rw [if_neg h3];by_cases h4:op=24
 ·rw [if_pos h4]
  by_cases h5:S.u32m (m.rd a+S.u32m imm)<m.mem.length
  ·rw [if_pos h5];exact Ze0 _ _ _
  ·rw [if_neg h5]
 rw [if_neg h4];by_cases h5:op=25
 ·rw [if_pos h5]
  by_cases h6:S.u32m (m.rd a+S.u32m imm)<m.mem.length
  ·rw [if_pos h6];exact List.length_set
  ·rw [if_neg h6]
 rw [if_neg h5];by_cases h6:op<=31
 ·rw [if_pos h6]
 rw [if_neg h6];by_cases h7:op=32
 ·rw [if_pos h7];exact Ze0 _ _ _
 rw [if_neg h7];by_cases h8:op=33
 ·rw [if_pos h8];exact Ze0 _ _ _
 rw [if_neg h8];by_cases h9:op=34
 ·rw [if_pos h9]
  cases hi:m.input with
  | nil=>exact Ze0 _ _ _
  | cons x r=>exact Ze0 _ _ _
 rw [if_neg h9];by_cases h10:op=35
 ·rw [if_pos h10]
 ·rw [if_neg h10]
theorem Zyj (m:S.Mach):m.step.mem.length=m.mem.length:=by
 unfold S.Mach.step S.Mach.fell
 split
 ·rfl
 split
 ·rfl
 split
 ·rfl
 split
 ·rfl
 ·exact Z1a _ _
theorem Zoe (m:S.Mach):∀ k,(m.steps_ k).mem.length=m.mem.length
 | 0=>rfl
 | k+1=>(Zyj _).trans (Zoe m k)
theorem Zgr {gw sw F:List Int}{size:Int}{I:S.Img}{m:S.Mach}(h:S.Wd gw sw F size m)(name:ByteArray)(N:Nat):((S.aj I m name N).mem.length:Int)=size:=by
 have e:(S.aj I m name N).mem.length=m.mem.length:=by
  unfold S.aj;rw [Zoe];unfold S.Mach.goV
  split
  ·rw [Zb0 (by decide) (by decide)]
  ·show (m.setV 31 (I.lab S.kStub)).mem.length=_
   rw [Zb0 (by decide) (by decide)]
 rw [e];exact h.len
end
section
open Go.RowKit
theorem Zd6 {g:S.Gr}{a:Int}(hg:g.Ok a){roots:List Int}{n:Int}{l:List Nat}(h:S.Reached g roots n l):n<=S.sizes g.ns:=by
 rw [h.sum,<- Zfq hg];exact Ze8 hg h.nd h.rng fun i hi=>List.mem_range.2 (h.rng i hi)
section
variable {x:S.am}(hx:x.Ok){F:List Int}{H heap half:Int}(hI:∀ b,(S.ab b (S.aa x.ng) (S.aa x.ns) F (H+heap)).Ok)(hH:H=(S.ab true (S.aa x.ng) (S.aa x.ns) F (H+heap)).lab S.kEnd)(hhf:half=heap/2)(hh0:0<=heap)
 {m0:S.Mach} (hw:S.Wd (S.aa x.ng) (S.aa x.ns) F (H+heap) m0) (h2:m0.mv 2=H) (h3:m0.mv 3=H+half) (h4:m0.mv 4=half) (hfit:S.sizes (S.ac x.nodes)<=half) {g:S.Gr} (hgE:g=S.ah x.nodes H)
include hx hI hH hhf hh0 hw h2 h3 h4 hfit hgE
end
end
section
open Go.RowKit
structure KTop (w:World)(B1 lo b p:Nat)(F:Nat->Prop)(H half:Int)(P:List (ByteArray×Int))(m:S.Mach):Prop where
 z:B1<=w.heap.size
 bB:b<B1
 blk:∃ (Aw:Option Addr) (nw cw:Nat) (Ap:Option Addr) (cp:Nat),w.heap[b]?=some (.cells #[.pointer (some ⟨p,0,none⟩),.slice Aw nw cw,.slice Ap P.length cp,.int .i64 H,.int .i64 half] 44 (0,0))/\ReadsP w w.heap.size Ap P/\(∀ k o s,Ap=some ⟨k,o,s⟩->k<B1/\¬ F k)
 mach:∃ vm vo A c inp rd,MAt w lo p vm vo A c inp rd m/\(∀ k,Zav p vm vo k->F k)/\(∀ k o s,A=some ⟨k,o,s⟩->k<B1/\¬ F k)
 lowb:lo<=b
 nb:¬ F b
 lt:∀ k,F k->lo<=k/\k<B1
 few:P.length<=1048576
section
variable {w w':World}{B1 lo b p:Nat}{F:Nat->Prop}{H half:Int}{P:List (ByteArray×Int)}{m m':S.Mach}
theorem KTop.of (h:KAt w lo b p F H half P m):KTop w w.heap.size lo b p F H half P m:=by
 obtain ⟨vm,vo,A,c,inp,rd,k1,k2,k3⟩:=h.mach;exact ⟨Nat.le_refl _,h.blt,h.blk,⟨vm,vo,A,c,inp,rd,k1,k2,fun k o s e=>⟨k1.la k o s e,k3 k o s e⟩⟩,h.lowb,h.nb,h.lt,h.few⟩
theorem KTop.kat (h:KTop w B1 lo b p F H half P m):KAt w lo b p F H half P m:=by
 obtain ⟨Aw,nw,cw,Ap,cp,h1,h2,h3⟩:=h.blk;obtain ⟨vm,vo,A,c,inp,rd,k1,k2,k3⟩:=h.mach;have hz:=h.z;exact ⟨⟨Aw,nw,cw,Ap,cp,h1,h2,fun k o s e=>⟨by have:=(h3 k o s e).1;omega,(h3 k o s e).2⟩⟩,⟨vm,vo,A,c,inp,rd,k1,k2,fun k o s e=>(k3 k o s e).2⟩,h.lowb,h.nb,fun k hk=>⟨(h.lt k hk).1,by have:=(h.lt k hk).2;omega⟩,h.few⟩
theorem KTop.keep (h:KTop w B1 lo b p F H half P m)(hb:Below B1 w w'):KTop w' B1 lo b p F H half P m:=by
 obtain ⟨Aw,nw,cw,Ap,cp,h1,h2,h3⟩:=h.blk;obtain ⟨vm,vo,A,c,inp,rd,k1,k2,k3⟩:=h.mach;have hz:=h.z;have hs:=hb.size;exact ⟨by omega,h.bB,⟨Aw,nw,cw,Ap,cp,(hb.block b h.bB).trans h1,h2.same hs fun k o s e=>hb.block k (h3 k o s e).1,h3⟩,⟨vm,vo,A,c,inp,rd,k1.keep hs (fun k hk=>hb.block k (by
  rcases hk with hk | ⟨o,s,e⟩
  ·exact (h.lt k (k2 k hk)).2
  ·exact (k3 k o s e).1)),k2,k3⟩,h.lowb,h.nb,h.lt,h.few⟩
theorem Zk0 (i v:Int)(h:KTop w B1 lo b p F H half P m)(hv:0<=v/\v<=4294967295):Calls Tryz.prog 16 #[.pointer (some ⟨p,0,none⟩),.int .i64 i,.int .u32 v] w fun e w'=>∃ r,e=.returned (.int .i64 r)/\KTop w' B1 lo b p F H half P (m.putV i v)/\Only F w w':=by
 obtain ⟨Aw,nw,cw,Ap,cp,h1,h2,h3⟩:=h.blk;obtain ⟨vm,vo,A,c,inp,rd,k1,k2,k3⟩:=h.mach;refine (Zq7 i v k1 hv).mono ?_;rintro e w' ⟨rfl,q1,q2⟩;have ho:Only F w w':=q2.weaken fun k _ hk=>k2 k hk
 have hs:=ho.size;have hz:=h.z;have hbB:=h.bB;exact ⟨_,rfl,⟨by omega,h.bB,⟨Aw,nw,cw,Ap,cp,(ho.block b (by omega) h.nb).trans h1,h2.same hs fun k o s e=>ho.block k (by have:=(h3 k o s e).1;omega) (h3 k o s e).2,h3⟩,⟨vm,vo,A,c,inp,rd,q1,k2,k3⟩,h.lowb,h.nb,h.lt,h.few⟩,ho⟩
end
structure LSt (wx:World)(Bx B1 lo b p gb:Nat)(F:Nat->Prop)(H half:Int)(P:List (ByteArray×Int))(g:S.Gr)(m:S.Mach)(vW vA:Value)(nW nA:Nat)(ws az:List Int)(w:World):Prop where
 top:KTop w B1 lo b p F H half P m
 gat:GAt w (fun k=>F k\/B1<=k) gb g
 rw:w.ownsRow B1 25 1 vW nW (ws.map (Yt .u32))
 ra:w.ownsRow B1 3 1 vA nA (az.map (Yt .i64))
 bel:Below Bx wx w
 fx:∀ k,F k->Bx<=k
 hx:Bx<=B1
section
variable {wx w w':World}{Bx B1 lo b p gb:Nat}{F:Nat->Prop}{H half:Int}{P:List (ByteArray×Int)}{g:S.Gr}{m m':S.Mach}{vW vA:Value}{nW nA:Nat}{ws az:List Int}
theorem LSt.start (hk:KAt w lo b p F H half P m)(hg:GAt w F gb g)(hb:Below Bx wx w)(fx:∀ k,F k->Bx<=k):LSt wx Bx w.heap.size lo b p gb F H half P g m (.slice none 0 0) (.slice none 0 0) 0 0 [] [] w :=
 ⟨.of hk,hg.pass ⟨.refl F w,fun k hk q=>q.elim id fun q=>by omega⟩,World.ownsRow_nil _ _ _ _,World.ownsRow_nil _ _ _ _,hb,fx,by
  have h1:=hk.blt;have h2:=hk.lowb;obtain ⟨vm,vo,A,c,inp,rd,k1,k2,k3⟩:=hk.mach;have hp:=k2 p (.inl rfl);have h3:=fx p hp;have h4:=(hk.lt p hp).2;omega⟩
theorem LSt.below (h:LSt wx Bx B1 lo b p gb F H half P g m vW vA nW nA ws az w)(hb:Below w.heap.size w w'):LSt wx Bx B1 lo b p gb F H half P g m vW vA nW nA ws az w':=by
 have hz:=h.top.z;have hx:=h.hx;exact ⟨h.top.keep (hb.mono hz),h.gat.below hb,Zc h.rw hb,Zc h.ra hb,h.bel.trans (hb.mono (by omega)),h.fx,h.hx⟩
theorem LSt.pushW (h:LSt wx Bx B1 lo b p gb F H half P g m vW vA nW nA ws az w){v:Int}{vW':Value}(ho:w'.ownsRow B1 25 1 vW' (nW+1) (ws.map (Yt .u32)++[.int .u32 v]))(hg:w.grownBy w' vW.ownBlock)(hb:Below B1 w w'):LSt wx Bx B1 lo b p gb F H half P g m vW' vA (nW+1) nA (ws++[v]) az w':=by
 refine ⟨h.top.keep hb,h.gat.pass (.of_only ⟨hb.os,hb.tape,hb.output,hb.size,fun k hk q=>hb.block k (by
  have:¬ B1<=k:=fun c=>q (.inr c)
  omega)⟩),?_,Zo h.ra fun k hk=>hg.block k (h.ra.lt k hk).2 fun e=>?_,h.bel.trans (hb.mono h.hx),h.fx,h.hx⟩
 ·rw [Yv]
  exact ho
 ·rcases Zfs h.rw h.ra (by decide) with q | q
  ·rw [q] at e;cases e
  ·exact q (e.symm.trans hk.symm)
theorem LSt.pushA (h:LSt wx Bx B1 lo b p gb F H half P g m vW vA nW nA ws az w){v:Int}{vA':Value}(ho:w'.ownsRow B1 3 1 vA' (nA+1) (az.map (Yt .i64)++[.int .i64 v]))(hg:w.grownBy w' vA.ownBlock)(hb:Below B1 w w'):LSt wx Bx B1 lo b p gb F H half P g m vW vA' nW (nA+1) ws (az++[v]) w':=by
 refine ⟨h.top.keep hb,h.gat.pass (.of_only ⟨hb.os,hb.tape,hb.output,hb.size,fun k hk q=>hb.block k (by
  have:¬ B1<=k:=fun c=>q (.inr c)
  omega)⟩),Zo h.rw fun k hk=>hg.block k (h.rw.lt k hk).2 fun e=>?_,?_,h.bel.trans (hb.mono h.hx),h.fx,h.hx⟩
 ·rcases Zfs h.ra h.rw (by decide) with q | q
  ·rw [q] at e;cases e
  ·exact q (e.symm.trans hk.symm)
 ·rw [Yv]
  exact ho
theorem LSt.put (h:LSt wx Bx B1 lo b p gb F H half P g m vW vA nW nA ws az w)(hk:KTop w' B1 lo b p F H half P m')(ho:Only F w w'):LSt wx Bx B1 lo b p gb F H half P g m' vW vA nW nA ws az w':=by
 have hz:=h.top.z;have hx:=h.hx;have nF:∀ k,B1<=k->¬ F k:=fun k hk q=>by
  have:=(h.top.lt k q).2;omega
 exact ⟨hk,h.gat.pass (.of_only (ho.weaken fun k _ q=>.inl q)),Zo h.rw fun k hk=>ho.block k (h.rw.lt k hk).2 (nF k (h.rw.lt k hk).1),Zo h.ra fun k hk=>ho.block k (h.ra.lt k hk).2 (nF k (h.ra.lt k hk).1),h.bel.trans (ho.below (by omega) h.fx),h.fx,h.hx⟩
end
theorem Zfy {w:World}{q:Nat}{cs:Array Value}{T:TypeId}{j:Nat}{u:Value}(hk:w.heap[q]?=some (.cells cs T (0,0))):(w.setCell ⟨q,j,none⟩ u).heap[q]?=some (.cells (cs.setIfInBounds j u) T (0,0)):=heap_setCell_same w q j cs T u hk
section
variable {wx w w':World}{Bx B1 lo b p gb:Nat}{F:Nat->Prop}{H half:Int}{P:List (ByteArray×Int)}{g:S.Gr}{m m':S.Mach}{vW vA:Value}{nW nA:Nat}{ws az:List Int}
theorem LSt.set (h:LSt wx Bx B1 lo b p gb F H half P g m vW vA nW nA ws az w){q j:Nat}{cs:Array Value}{T:TypeId}{u:Value}(hq:B1<=q)(hk:w.heap[q]?=some (.cells cs T (0,0)))(hT:T≠25/\T≠3):LSt wx Bx B1 lo b p gb F H half P g m vW vA nW nA ws az (w.setCell ⟨q,j,none⟩ u):=by
 have hb:Below B1 w (w.setCell ⟨q,j,none⟩ u):=(Below.refl B1 w).setCell (p:=⟨q,j,none⟩) hq u;exact ⟨h.top.keep hb,h.gat.pass (.of_only ⟨hb.os,hb.tape,hb.output,hb.size,fun k hk q=>hb.block k (by
  have:¬ B1<=k:=fun c=>q (.inr c)
  omega)⟩),ownsRow_setCell_other (a:=⟨q,j,none⟩) h.rw (Zs h.rw hk hT.1) _,ownsRow_setCell_other (a:=⟨q,j,none⟩) h.ra (Zs h.ra hk hT.2) _,h.bel.trans (hb.mono h.hx),h.fx,h.hx⟩
theorem LSt.q_push (h:LSt wx Bx B1 lo b p gb F H half P g m vW vA nW nA ws az w){q:Nat}{cs:Array Value}{T:TypeId}(hk:w.heap[q]?=some (.cells cs T (0,0)))(hT:T≠25/\T≠3){w':World}(hg:w.grownBy w' vW.ownBlock\/w.grownBy w' vA.ownBlock):w'.heap[q]?=some (.cells cs T (0,0)):=by
 have hlt:=(Ye.1 hk).1;rcases hg with hg | hg
 ·exact (hg.block q hlt (fun e=>Zs h.rw hk hT.1 e.symm)).trans hk
 ·exact (hg.block q hlt (fun e=>Zs h.ra hk hT.2 e.symm)).trans hk
theorem LSt.q_put (h:LSt wx Bx B1 lo b p gb F H half P g m vW vA nW nA ws az w){q:Nat}(hq:B1<=q){o:Obj}(hk:w.heap[q]?=some o)(ho:Only F w w'):w'.heap[q]?=some o :=
 (ho.block q (Ye.1 hk).1 fun e=>by have:=(h.top.lt q e).2;omega).trans hk
end
theorem Z1b {x:Int}(h:0<=x/\x<4294967296):bits .and .u32 x 1=x%2:=by
 obtain ⟨n,rfl⟩:=Yb1 h.1
 show IntKind.u32.wrap ((BitVec.ofInt 32 (n:Int) &&& BitVec.ofInt 32 1).toNat:Int)=_
 have e:(BitVec.ofInt 32 (n:Int) &&& BitVec.ofInt 32 1).toNat=n%2:=by
  rw [BitVec.toNat_and,BitVec.toNat_ofInt,BitVec.toNat_ofInt];have e1:(((n:Nat):Int)%((2^32:Nat):Int)).toNat=n:=by omega
  have e2:((1:Int)%((2^32:Nat):Int)).toNat=1:=by decide
  rw [e1,e2,Nat.and_one_is_mod]
 rw [e];exact IntWalk.u32_in _ ⟨by omega,by omega⟩
theorem Zyk {b:Int}(h:0<=b/\b<4294967296)(r:Nat):(bits .and .u32 (b/2^r) 1==1)=S.bm b r:=by
 have h2:(0:Int)<2^r:=Int.pow_pos (by decide);rw [Z1b ⟨Int.ediv_nonneg h.1 (Int.le_of_lt h2),Int.lt_of_le_of_lt (Int.ediv_le_self _ h.1) h.2⟩];rfl
theorem Z22 {b:Int}(h:0<=b/\b<4294967296){r:Nat}(hr:r<32):bits .or .u32 b (2^r%4294967296)=S.be b r:=by
 obtain ⟨n,rfl⟩:=Yb1 h.1;have h2:2^r<2^32:=Nat.pow_lt_pow_right (by decide) hr;have h3:((2:Int)^r)=((2^r:Nat):Int):=by simp
 rw [h3];have h4:=Nat.or_lt_two_pow (show n<2^32 by omega) h2;unfold S.be;rw [Ya7];obtain ⟨t,ht⟩:=Yx (2^r);rw [<- ht] at h2 h4 ⊢
 show IntKind.u32.wrap ((BitVec.ofInt 32 (n:Int) ||| BitVec.ofInt 32 ((t:Int)%4294967296)).toNat:Int)=_
 have e:(BitVec.ofInt 32 (n:Int) ||| BitVec.ofInt 32 ((t:Int)%4294967296)).toNat=n ||| t:=by
  rw [BitVec.toNat_or,BitVec.toNat_ofInt,BitVec.toNat_ofInt];have e1:(((n:Nat):Int)%((2^32:Nat):Int)).toNat=n:=by omega
  have e2:(((t:Int)%4294967296)%((2^32:Nat):Int)).toNat=t:=by omega
  rw [e1,e2]
 rw [e];exact IntWalk.u32_in _ ⟨by omega,by omega⟩
theorem Zv3 {g:S.Gr}{sl:List (Int×Int)}{pl:List Int}{i s qn r:Nat}(hs:pl.getD i 0%64=(s:Int))(h64:s<64)(hq:s=32*qn+r)(hr:r<32)(hb:S.bm (if qn=0 then (S.af g sl pl i).1 else (S.af g sl pl i).2.1) r=true):S.af g sl pl (i+1)=S.af g sl pl i:=by
 rw [S.af,hs,Ya7];by_cases c:s<32
 ·rw [if_pos (show qn=0 by omega)] at hb
  rw [if_pos c,show s=r by omega,hb];rfl
 ·rw [if_neg (show ¬ qn=0 by omega)] at hb
  rw [if_neg c,show s-32=r by omega,hb];rfl
theorem Zsu {g:S.Gr}{sl:List (Int×Int)}{pl:List Int}{i s qn r:Nat}(hs:pl.getD i 0%64=(s:Int))(h64:s<64)(hq:s=32*qn+r)(hr:r<32){b0 b1:Int}(h0:b0=(S.af g sl pl i).1)(h1:b1=(S.af g sl pl i).2.1)(hb:S.bm (if qn=0 then b0 else b1) r=false) :
 (S.af g sl pl (i+1)).1=(if qn=0 then S.be b0 r else b0)/\(S.af g sl pl (i+1)).2.1=(if qn=0 then b1 else S.be b1 r)/\(S.af g sl pl (i+1)).2.2=(S.af g sl pl i).2.2++[(32+(s:Int),g.word (sl.getD i (0,0)))]:=by
 subst h0 h1;rw [S.af,hs,Ya7];by_cases c:s<32
 ·have q0:qn=0:=by omega
  rw [if_pos q0] at hb;rw [if_pos q0,if_pos q0,if_pos c,show s=r by omega,hb];exact ⟨rfl,rfl,rfl⟩
 ·have q0:¬ qn=0:=by omega
  rw [if_neg q0] at hb;rw [if_neg q0,if_neg q0,if_neg c,show s-32=r by omega,hb];exact ⟨rfl,rfl,rfl⟩
theorem plS (P0:List (Int×Int))(g:S.Gr)(a:Int)(l:List (Int×Int))(i:Nat):(P0++S.ao g a l (i+1)).map Ybd=(P0++S.ao g a l i).map Ybd++[g.word (l.getD i (0,0))]:=by
 rw [Zi4,<- Ym,Yv];rfl
theorem plF (P0:List (Int×Int))(g:S.Gr)(a:Int)(l:List (Int×Int))(i:Nat):(P0++S.ao g a l (i+1)).map Yan=(P0++S.ao g a l i).map Yan++[a+(i:Int)]:=by
 rw [Zi4,<- Ym,Yv];rfl
structure SttF (w:World)(An Ar Ag As Aq Ap:Option Addr)(x:S.am):Prop where
 nodes:NodesF w (fun k=>w.heap.size<=k) An x.nodes
 roots:WordsF w (fun k=>w.heap.size<=k) Ar x.roots
 glob:WordsF w (fun k=>w.heap.size<=k) Ag x.glob
 stat:WordsF w (fun k=>w.heap.size<=k) As x.stat
 slots:WordsF w (fun k=>w.heap.size<=k) Aq x.slots
 places:ReadsF w (fun k=>w.heap.size<=k) Ap (x.places.map (Yt .u8))
 few:x.nodes.length<=9223372036854775807/\x.roots.length<=9223372036854775807/\x.glob.length<=9223372036854775807/\x.stat.length<=9223372036854775807/\x.slots.length<=9223372036854775807/\x.places.length<=9223372036854775807
end
end Go.Proofs.YtgdjocajlndonaaGreatDoor
