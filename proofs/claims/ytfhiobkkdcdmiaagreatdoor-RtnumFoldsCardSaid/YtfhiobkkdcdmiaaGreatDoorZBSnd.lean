/- Parts. -/
import Derived.Test.YtfhiobkkdcdmiaaGreatDoorZBGo
set_option linter.all false
open Nat renaming le_refl->Yb,add_sub_cancel_left->Yaq,add_assoc->Ybo
open List renaming length_append->Yd,getElem?_append_left->Ym,getElem?_append_right->Yo,append_nil->Yba
open Int renaming le_refl->Y7
namespace Go.Proofs.YtfhiobkkdcdmiaaGreatDoor
open Go.RowKit
section
theorem Z62 {h l:Nat}(hl:l<65536):(h*65536) ||| l=h*65536+l:=by
 have:=Nat.two_pow_add_eq_or_of_lt (i:=16) (b:=l) (by omega) h;have e:2^16*h=h*65536:=by omega
 rw[e] at this;exact this.symm
theorem Ztx {w:Int}(w0:0<=w)(w1:w<=4294967295):S.alu 8 (w/65536*65536) (w%65536)=w:=by
 show bits .or .u32 (w/65536*65536) (w%65536)=w
 rw[u32_or (by omega) (by omega) (by omega) (by omega)];have e3:(w/65536*65536).toNat=(w/65536).toNat*65536:=by omega
 rw[e3,Z62 (by omega)];omega
theorem Z3j {xs:List S.Item}{F:List Int}{base:Int}{i:Nat}{x:S.Item}(hk:x.kind=4)(hf:F.getD i 0=1)(h:S.fit xs F base i x=true) :
 -1048576<=S.addr xs F base (S.stands xs x.label).toNat-S.addr xs F base (i+1)/\S.addr xs F base (S.stands xs x.label).toNat-S.addr xs F base (i+1)<=1048575:=by
 unfold S.fit at h;rw[if_neg (by rw[hf,hk];decide),if_neg (λ q=>by rw[hk] at q;exact absurd q.1 (by decide))] at h;exact of_decide_eq_true h
theorem Z3k {xs:List S.Item}{F:List Int}{base:Int}{i:Nat}{x:S.Item}(hk:x.kind=3)(hf:F.getD i 0=2)(h:S.fit xs F base i x=true) :
 -1048576<=S.addr xs F base (S.stands xs x.label).toNat-S.addr xs F base (i+1)/\S.addr xs F base (S.stands xs x.label).toNat-S.addr xs F base (i+1)<=1048575:=by
 unfold S.fit at h;rw[if_neg (by rw[hf,hk];decide),if_neg (by rw[hf,hk];decide)] at h;exact of_decide_eq_true h
theorem Z3l {xs:List S.Item}{F:List Int}{base:Int}{i:Nat}{x:S.Item}(hk:x.kind=3)(hf:F.getD i 0=1)(h:S.fit xs F base i x=true) :
 -32768<=S.addr xs F base (S.stands xs x.label).toNat-S.addr xs F base (i+1)/\S.addr xs F base (S.stands xs x.label).toNat-S.addr xs F base (i+1)<=32767:=by
 unfold S.fit at h;rw[if_neg (by rw[hf,hk];decide),if_pos (by rw[hf,hk];decide)] at h;exact of_decide_eq_true h
theorem Zla {d n:Int}(hd:0<=d/\d<=31)(hn:-1048576<=n/\n<=1048575):S.good ⟨32,d,0,0,n⟩=true:=by
 have hf:S.form 32=5:=by decide
 have hl:S.least 32=-1048576/\S.most 32=1048575:=by decide
 simp[S.good,hf,hl.1,hl.2,S.reg,S.hasD,S.hasA,S.hasB];omega
theorem Zic {d a n:Int}(hd:0<=d/\d<=31)(ha:0<=a/\a<=31)(hn:-32768<=n/\n<=32767):S.good ⟨33,d,a,0,n⟩=true:=by
 have hf:S.form 33=2:=by decide
 have hl:S.least 33=-32768/\S.most 33=32767:=by decide
 simp[S.good,hf,hl.1,hl.2,S.reg,S.hasD,S.hasA,S.hasB];omega
theorem Zmu {d n:Int}(hd:0<=d/\d<=31)(hn:0<=n/\n<=65535):S.good ⟨23,d,0,0,n⟩=true:=by
 have hf:S.form 23=3:=by decide
 have hl:S.least 23=0/\S.most 23=65535:=by decide
 simp[S.good,hf,hl.1,hl.2,S.reg,S.hasD,S.hasA,S.hasB];omega
theorem Zmv {d a n:Int}(hd:0<=d/\d<=31)(ha:0<=a/\a<=31)(hn:0<=n/\n<=65535):S.good ⟨17,d,a,0,n⟩=true:=by
 have hf:S.form 17=2:=by decide
 have hl:S.least 17=0/\S.most 17=65535:=by decide
 simp[S.good,hf,hl.1,hl.2,S.reg,S.hasD,S.hasA,S.hasB];omega
theorem Zpb {op a b n:Int}(ho:op=26\/op=27)(ha:0<=a/\a<=31)(hb:0<=b/\b<=31)(hn:-32768<=n/\n<=32767):S.good ⟨op,0,a,b,n⟩=true:=by
 rcases ho with rfl|rfl
 .have hf:S.form 26=4:=by decide
  have hl:S.least 26=-32768/\S.most 26=32767:=by decide
  simp[S.good,hf,hl.1,hl.2,S.reg,S.hasD,S.hasA,S.hasB];omega
 .have hf:S.form 27=4:=by decide
  have hl:S.least 27=-32768/\S.most 27=32767:=by decide
  simp[S.good,hf,hl.1,hl.2,S.reg,S.hasD,S.hasA,S.hasB];omega
section
variable {I:S.Img}(hI:I.Ok)
include hI
theorem Zlb {m:S.Mach}{V:S.Vw}{a:Int}(h:S.On I m V a){y:S.Inst}{v p:Int}(hs:m.step={ (m.act y).1 with place:=(m.act y).2.1,steps:=m.steps+1 })
 (hy:0<=y.d) (ha:m.act y=(m.put 25 v,p,0)):S.On I m.step V p/\m.step.rd 25=v:=by
 refine⟨(Zh8 hI h (by decide) (by decide) hs hy ha).ext (λ j _ _ h2=>?_) (λ _ _ _=>rfl) rfl rfl,?_⟩
 .show(if j=25 then v else V.reg j)=V.reg j
  rw[if_neg h2]
 .rw[hs,ha]
  have hr:=h.ok.regs
  show(m.reg.set 25 v).getD 25 0=v
  have:25<m.reg.length:=by omega
  simp[this]
variable {i:Nat}(h0:I.i0<=i)(h1:i<I.i1)
include h0 h1
theorem Zty {m:S.Mach}{V:S.Vw}{j:Nat}{tq:Int}(hm:S.On I m V (I.adr i+j))(ht0:0<=tq)(ht1:tq<=4294967295)
 (hj:(S.wordsAt I.xs I.F 0 i)[j]?=some (S.lui tq)) (hj1:(S.wordsAt I.xs I.F 0 i)[j+1]?=some (S.ori tq)) :
 S.On I (m.steps_ 2) V (I.adr i+(j+2:Nat))/\(m.steps_ 2).rd 25=tq:=by
 have hg1:S.good ⟨23,25,0,0,tq/65536⟩=true:=Zmu (by decide) (by omega);have hg2:S.good ⟨17,25,25,0,tq%65536⟩=true:=Zmv (by decide) (by decide) (by omega);have a1:m.act ⟨23,25,0,0,tq/65536⟩=(m.put 25 (tq/65536*65536),S.u32m (m.place+1),0):=by
  have e:S.u32m (S.u32m (tq/65536)*65536)=tq/65536*65536:=by unfold S.u32m;omega
  unfold S.Mach.act;simp[e]
 obtain⟨s1,p1⟩:=Z1 hI hm h0 h1 hj rfl hg1 (by rw[a1]);obtain⟨k1,r1⟩:=Zlb hI hm s1 (show(0:Int)<=25 by decide) a1;rw[p1] at k1;have a2:m.step.act ⟨17,25,25,0,tq%65536⟩=(m.step.put 25 tq,S.u32m (m.step.place+1),0):=by
  have e:S.alu (S.like 17) (tq/65536*65536) (S.u32m (tq%65536))=tq:=by
   have e1:S.u32m (tq%65536)=tq%65536:=by unfold S.u32m;omega
   rw[e1];exact Ztx ht0 ht1
  unfold S.Mach.act;simp only[r1,e];rw[if_neg (by decide),if_pos (by decide)]
 obtain⟨s2,p2⟩:=Z1 hI k1 h0 h1 hj1 (by omega) hg2 (by rw[a2]);obtain⟨k2,r2⟩:=Zlb hI k1 s2 (show(0:Int)<=25 by decide) a2;rw[p2] at k2;have e2:m.steps_ 2=m.step.step:=rfl;rw[e2];refine⟨?_,r2⟩;have e3:I.adr i+((j+1:Nat):Int)+1=I.adr i+((j+2:Nat):Int):=by omega
 rw[<- e3];exact k2
theorem Zqn {x:S.Item}(hx:I.xs[i]?=some x)(hn:S.named x=true):S.toOf I.xs I.F 0 x=I.lab x.label/\0<=I.lab x.label/\I.lab x.label<=67108864:=by
 have e:S.toOf I.xs I.F 0 x=I.lab x.label:=by unfold S.toOf;rw[if_pos hn];rfl
 have h:=Ztp (Za0 hI) hI.words (Y7 0) (Zmq hI) x;rw[e] at h;exact⟨e,h⟩
theorem Zlc {V:S.Vw}{o a b n:Int}{s:ByteArray}{w:Int}(hx:I.xs[i]?=some ⟨4,⟨o,0,a,b,n⟩,s,w⟩):S.Go I V (I.adr i) 3 V (I.lab s):=λ m hm=>by
 obtain⟨hl,l0,l1⟩:S.toOf I.xs I.F 0 _=I.lab s/\0<=I.lab s/\I.lab s<=67108864:=Zqn hI h0 h1 hx rfl;have hsz:=Z8 hI hx;have hfo:=((Za0 hI).2 i _ hx).2.1 rfl;have hfit:=(Zgp hI).2 i _ hx;have hb:=Zk5 hI (i:=i+1) (by have:=hI.i1l;omega);have hb0:=Zo6 hI i;have hw:S.wordsAt I.xs I.F 0 i=S.wordsOf ⟨4,⟨o,0,a,b,n⟩,s,w⟩ (I.F.getD i 0) (I.adr i) (I.lab s):=by
  unfold S.wordsAt;rw[hx]
  show S.wordsOf _ _ _ (S.toOf I.xs I.F 0 _)=_
  rw[hl];rfl
 rcases(show I.F.getD i 0=1\/I.F.getD i 0=2 by omega) with hf|hf
 .rw[hf] at hw hsz
  have hw':S.wordsAt I.xs I.F 0 i=[S.wordOf ⟨32,0,0,0,I.lab s-I.adr i-1⟩]:=hw;have hsz':I.adr (i+1)=I.adr i+1:=hsz;have hr:-1048576<=I.lab s-I.adr (i+1)/\I.lab s-I.adr (i+1)<=1048575:=Z3j rfl hf hfit;have hg:S.good ⟨32,0,0,0,I.lab s-I.adr i-1⟩=true:=Zla (by decide) (by omega);have ha:m.act ⟨32,0,0,0,I.lab s-I.adr i-1⟩=(m,S.u32m (S.u32m (m.place+1)+S.u32m (I.lab s-I.adr i-1)),0):=by
   unfold S.Mach.act S.Mach.put;simp
  obtain⟨s1,p1⟩:=Z1 hI hm h0 h1 (j:=0) (by rw[hw'];rfl) (by simp) hg (by rw[ha]);have k1:=Zd7 hI hm s1 (Y7 _) ha;refine⟨1,by decide,?_⟩;have e:S.u32m (S.u32m (m.place+1)+S.u32m (I.lab s-I.adr i-1))=I.lab s:=by
   rw[p1];unfold S.u32m;omega
  rw[e] at k1;exact k1
 .rw[hf] at hw
  have hw':S.wordsAt I.xs I.F 0 i=[S.lui (I.lab s),S.ori (I.lab s),S.wordOf ⟨33,0,25,0,0⟩]:=hw;obtain⟨k2,r2⟩:=Zty hI h0 h1 (j:=0) (tq:=I.lab s) (by simpa using hm) l0 (by omega) (by rw[hw'];rfl) (by rw[hw'];rfl);have ha:(m.steps_ 2).act ⟨33,0,25,0,0⟩=(m.steps_ 2,I.lab s,0):=by
   have e:S.u32m (I.lab s+S.u32m 0)=I.lab s:=by unfold S.u32m;omega
   unfold S.Mach.act S.Mach.put;simp only[r2,e];simp
  obtain⟨s1,p1⟩:=Z1 hI k2 h0 h1 (j:=2) (by rw[hw'];rfl) rfl (Zic (by decide) (by decide) (by decide)) (by rw[ha]);exact⟨3,Yb _,Zd7 hI k2 s1 (Y7 _) ha⟩
theorem Zqo {V:S.Vw}{o d a b n:Int}{s:ByteArray}{w:Int}(hx:I.xs[i]?=some ⟨4,⟨o,d,a,b,n⟩,s,w⟩)(hd:0<d)(hd2:d<=31):S.Go I V (I.adr i) 3 (V.set d (I.adr (i+1))) (I.lab s):=λ m hm=>by
 obtain⟨hl,l0,l1⟩:S.toOf I.xs I.F 0 _=I.lab s/\0<=I.lab s/\I.lab s<=67108864:=Zqn hI h0 h1 hx rfl;have hsz:=Z8 hI hx;have hfo:=((Za0 hI).2 i _ hx).2.1 rfl;have hfit:=(Zgp hI).2 i _ hx;have hb:=Zk5 hI (i:=i+1) (by have:=hI.i1l;omega);have hb0:=Zo6 hI i;have hw:S.wordsAt I.xs I.F 0 i=S.wordsOf ⟨4,⟨o,d,a,b,n⟩,s,w⟩ (I.F.getD i 0) (I.adr i) (I.lab s):=by
  unfold S.wordsAt;rw[hx]
  show S.wordsOf _ _ _ (S.toOf I.xs I.F 0 _)=_
  rw[hl];rfl
 rcases(show I.F.getD i 0=1\/I.F.getD i 0=2 by omega) with hf|hf
 .rw[hf] at hw hsz
  have hw':S.wordsAt I.xs I.F 0 i=[S.wordOf ⟨32,d,0,0,I.lab s-I.adr i-1⟩]:=hw;have hsz':I.adr (i+1)=I.adr i+1:=hsz;have hr:-1048576<=I.lab s-I.adr (i+1)/\I.lab s-I.adr (i+1)<=1048575:=Z3j rfl hf hfit;have hg:S.good ⟨32,d,0,0,I.lab s-I.adr i-1⟩=true:=Zla (by omega) (by omega);have ha:m.act ⟨32,d,0,0,I.lab s-I.adr i-1⟩=(m.put d (S.u32m (m.place+1)),S.u32m (S.u32m (m.place+1)+S.u32m (I.lab s-I.adr i-1)),0):=by
   unfold S.Mach.act;simp
  obtain⟨s1,p1⟩:=Z1 hI hm h0 h1 (j:=0) (by rw[hw'];rfl) (by simp) hg (by rw[ha]);have k1:=Zh8 hI hm hd hd2 s1 (by show 0<=d;omega) ha;refine⟨1,by decide,?_⟩;have e:S.u32m (S.u32m (m.place+1)+S.u32m (I.lab s-I.adr i-1))=I.lab s:=by
   rw[p1];unfold S.u32m;omega
  have e2:S.u32m (m.place+1)=I.adr (i+1):=by rw[p1,hsz'];simp
  rw[e,e2] at k1;exact k1
 .rw[hf] at hw hsz
  have hw':S.wordsAt I.xs I.F 0 i=[S.lui (I.lab s),S.ori (I.lab s),S.wordOf ⟨33,d,25,0,0⟩]:=hw;have hsz':I.adr (i+1)=I.adr i+3:=hsz;obtain⟨k2,r2⟩:=Zty hI h0 h1 (j:=0) (tq:=I.lab s) (by simpa using hm) l0 (by omega) (by rw[hw'];rfl) (by rw[hw'];rfl);have ha:(m.steps_ 2).act ⟨33,d,25,0,0⟩=((m.steps_ 2).put d (S.u32m ((m.steps_ 2).place+1)),I.lab s,0):=by
   have e:S.u32m (I.lab s+S.u32m 0)=I.lab s:=by unfold S.u32m;omega
   unfold S.Mach.act;simp only[r2,e];simp
  obtain⟨s1,p1⟩:=Z1 hI k2 h0 h1 (j:=2) (by rw[hw'];rfl) rfl (Zic (by omega) (by decide) (by decide)) (by rw[ha]);have k1:=Zh8 hI k2 hd hd2 s1 (by show 0<=d;omega) ha;have e2:S.u32m ((m.steps_ 2).place+1)=I.adr (i+1):=by rw[p1,hsz'];omega
  rw[e2] at k1;exact⟨3,Yb _,k1⟩
theorem Z06 {V:S.Vw}{o d a b n:Int}{s:ByteArray}(hx:I.xs[i]?=some ⟨5,⟨o,d,a,b,n⟩,s,0⟩)(hd:0<d)(hd2:d<=31)(hd3:d≠25):S.Go I V (I.adr i) 2 (V.set d (I.lab s)) (I.adr (i+1)):=λ m hm=>by
 obtain⟨hl,l0,l1⟩:S.toOf I.xs I.F 0 _=I.lab s/\0<=I.lab s/\I.lab s<=67108864:=Zqn hI h0 h1 hx rfl;have hsz:I.adr (i+1)=I.adr i+2:=Z8 hI hx;have hw':S.wordsAt I.xs I.F 0 i=[S.wordOf ⟨23,d,0,0,I.lab s/65536⟩,S.wordOf ⟨17,d,d,0,I.lab s%65536⟩]:=by
  unfold S.wordsAt;rw[hx]
  show S.wordsOf _ _ _ (S.toOf I.xs I.F 0 _)=_
  rw[hl]
  show [S.wordOf ⟨23,d,0,0,(I.lab s+0)%4294967296/65536⟩,S.wordOf ⟨17,d,d,0,(I.lab s+0)%4294967296%65536⟩]=_
  have e:(I.lab s+0)%4294967296=I.lab s:=by omega
  rw[e]
 have hg1:S.good ⟨23,d,0,0,I.lab s/65536⟩=true:=Zmu (by omega) (by omega);have hg2:S.good ⟨17,d,d,0,I.lab s%65536⟩=true:=Zmv (by omega) (by omega) (by omega);have a1:m.act ⟨23,d,0,0,I.lab s/65536⟩=(m.put d (I.lab s/65536*65536),S.u32m (m.place+1),0):=by
  have e:S.u32m (S.u32m (I.lab s/65536)*65536)=I.lab s/65536*65536:=by unfold S.u32m;omega
  unfold S.Mach.act;simp[e]
 obtain⟨s1,p1⟩:=Z1 hI hm h0 h1 (j:=0) (by rw[hw'];rfl) (by simp) hg1 (by rw[a1]);have k1:=Zh8 hI hm hd hd2 s1 (by show 0<=d;omega) a1;rw[p1] at k1;have r1:m.step.rd d=I.lab s/65536*65536:=by
  rw[k1.reg d (by omega) hd2 hd3]
  show(if d=d then _ else _)=_
  rw[if_pos rfl]
 have a2:m.step.act ⟨17,d,d,0,I.lab s%65536⟩=(m.step.put d (I.lab s),S.u32m (m.step.place+1),0):=by
  have e:S.alu (S.like 17) (I.lab s/65536*65536) (S.u32m (I.lab s%65536))=I.lab s:=by
   have e1:S.u32m (I.lab s%65536)=I.lab s%65536:=by unfold S.u32m;omega
   rw[e1];exact Ztx l0 (by omega)
  unfold S.Mach.act;simp only[r1,e];rw[if_neg (by decide),if_pos (by decide)]
 obtain⟨s2,p2⟩:=Z1 hI k1 h0 h1 (j:=1) (by rw[hw'];rfl) (by omega) hg2 (by rw[a2]);have k2:=Zh8 hI k1 hd hd2 s2 (by show 0<=d;omega) a2;refine⟨2,Yb _,?_⟩;have e3:S.u32m (m.step.place+1)=I.adr (i+1):=by rw[p2,hsz];omega
 rw[e3] at k2;refine k2.ext (λ j _ _ _=>?_) (λ _ _ _=>rfl) rfl rfl
 show(if j=d then _ else if j=d then _ else _)=if j=d then _ else _
 split <;> rfl
theorem Zmw {V:S.Vw}{d a n:Int}{s:ByteArray}{w:Int}(hx:I.xs[i]?=some ⟨3,⟨26,d,a,0,n⟩,s,w⟩)(ha:0<=a/\a<=31/\a≠25) :
 S.Go I V (I.adr i) 4 V (if V.reg a=0 then I.lab s else I.adr (i+1)):=λ m hm=>by
 obtain⟨hl,l0,l1⟩:S.toOf I.xs I.F 0 _=I.lab s/\0<=I.lab s/\I.lab s<=67108864:=Zqn hI h0 h1 hx rfl;have hsz:=Z8 hI hx;have hfo:=((Za0 hI).2 i _ hx).1 rfl;have hfit:=(Zgp hI).2 i _ hx;have hb:=Zk5 hI (i:=i+1) (by have:=hI.i1l;omega);have hb0:=Zo6 hI i;have e1:=hm.reg a ha.1 ha.2.1 ha.2.2;have e0:m.rd 0=0:=hm.ok.zero;have hw:S.wordsAt I.xs I.F 0 i=S.wordsOf ⟨3,⟨26,d,a,0,n⟩,s,w⟩ (I.F.getD i 0) (I.adr i) (I.lab s):=by
  unfold S.wordsAt;rw[hx]
  show S.wordsOf _ _ _ (S.toOf I.xs I.F 0 _)=_
  rw[hl];rfl
 have hgo:∀m':S.Mach,m'.rd a=V.reg a->m'.rd 0=0->∀k:Int,(m'.act ⟨26,0,a,0,k⟩=(m',if V.reg a=0 then S.u32m (S.u32m (m'.place+1)+S.u32m k) else S.u32m (m'.place+1),0)) /\
  (m'.act ⟨27,0,a,0,k⟩=(m',if V.reg a=0 then S.u32m (m'.place+1) else S.u32m (S.u32m (m'.place+1)+S.u32m k),0)):=by
  intro m' r1 r0 k
  constructor
  .unfold S.Mach.act S.goes
   simp only[r1,r0];by_cases c:V.reg a=0 <;> simp[c]
  .unfold S.Mach.act S.goes
   simp only[r1,r0];by_cases c:V.reg a=0 <;> simp[c]
 rcases(show I.F.getD i 0=1\/I.F.getD i 0=2\/I.F.getD i 0=3 by omega) with hf|hf|hf
 .rw[hf] at hw hsz
  have hw':S.wordsAt I.xs I.F 0 i=[S.wordOf ⟨26,0,a,0,I.lab s-I.adr i-1⟩]:=hw;have hsz':I.adr (i+1)=I.adr i+1:=hsz;have hr:-32768<=I.lab s-I.adr (i+1)/\I.lab s-I.adr (i+1)<=32767:=Z3l rfl hf hfit;have hac:=(hgo m e1 e0 (I.lab s-I.adr i-1)).1;obtain⟨s1,p1⟩:=Z1 hI hm h0 h1 (j:=0) (by rw[hw'];rfl) (by simp) (Zpb (.inl rfl) ⟨ha.1,ha.2.1⟩ (by decide) (by omega)) (by rw[hac]);have k1:=Zd7 hI hm s1 (Y7 _) hac;refine⟨1,by decide,?_⟩;have e:(if V.reg a=0 then S.u32m (S.u32m (m.place+1)+S.u32m (I.lab s-I.adr i-1)) else S.u32m (m.place+1))=if V.reg a=0 then I.lab s else I.adr (i+1):=by
   split
   .rw[p1];unfold S.u32m;omega
   .rw[p1,hsz'];simp
  rw[e] at k1;exact k1
 .rw[hf] at hw hsz
  have hw':S.wordsAt I.xs I.F 0 i=[S.wordOf ⟨27,0,a,0,1⟩,S.wordOf ⟨32,0,0,0,I.lab s-I.adr i-2⟩]:=hw;have hsz':I.adr (i+1)=I.adr i+2:=hsz;have hr:-1048576<=I.lab s-I.adr (i+1)/\I.lab s-I.adr (i+1)<=1048575:=Z3k rfl hf hfit;have hac:=(hgo m e1 e0 1).2;obtain⟨s1,p1⟩:=Z1 hI hm h0 h1 (j:=0) (by rw[hw'];rfl) (by simp) (Zpb (.inr rfl) ⟨ha.1,ha.2.1⟩ (by decide) (by omega)) (by rw[hac]);have k1:=Zd7 hI hm s1 (Y7 _) hac;by_cases c:V.reg a=0
  .rw[if_pos c] at k1⊢
   rw[p1] at k1;have ha2:m.step.act ⟨32,0,0,0,I.lab s-I.adr i-2⟩=(m.step,S.u32m (S.u32m (m.step.place+1)+S.u32m (I.lab s-I.adr i-2)),0):=by
    unfold S.Mach.act S.Mach.put;simp
   obtain⟨s2,p2⟩:=Z1 hI k1 h0 h1 (j:=1) (by rw[hw'];rfl) (by simp) (Zla (by decide) (by omega)) (by rw[ha2]);have k2:=Zd7 hI k1 s2 (Y7 _) ha2;refine⟨2,by decide,?_⟩;have e:S.u32m (S.u32m (m.step.place+1)+S.u32m (I.lab s-I.adr i-2))=I.lab s:=by
    rw[p2];unfold S.u32m;omega
   rw[e] at k2;exact k2
  .rw[if_neg c] at k1⊢
   refine⟨1,by decide,?_⟩;have e:S.u32m (S.u32m (m.place+1)+S.u32m 1)=I.adr (i+1):=by
    rw[p1,hsz'];unfold S.u32m;omega
   rw[e] at k1;exact k1
 .rw[hf] at hw hsz
  have hw':S.wordsAt I.xs I.F 0 i=[S.wordOf ⟨27,0,a,0,3⟩,S.lui (I.lab s),S.ori (I.lab s),S.wordOf ⟨33,0,25,0,0⟩]:=hw;have hsz':I.adr (i+1)=I.adr i+4:=hsz;have hac:=(hgo m e1 e0 3).2;obtain⟨s1,p1⟩:=Z1 hI hm h0 h1 (j:=0) (by rw[hw'];rfl) (by simp) (Zpb (.inr rfl) ⟨ha.1,ha.2.1⟩ (by decide) (by omega)) (by rw[hac]);have k1:=Zd7 hI hm s1 (Y7 _) hac;by_cases c:V.reg a=0
  .rw[if_pos c] at k1⊢
   rw[p1] at k1;obtain⟨k2,r2⟩:=Zty hI h0 h1 (m:=m.step) (j:=1) (tq:=I.lab s) (by simpa using k1) l0 (by omega) (by rw[hw'];rfl) (by rw[hw'];rfl);have ha2:(m.step.steps_ 2).act ⟨33,0,25,0,0⟩=(m.step.steps_ 2,I.lab s,0):=by
    have e:S.u32m (I.lab s+S.u32m 0)=I.lab s:=by unfold S.u32m;omega
    unfold S.Mach.act S.Mach.put;simp only[r2,e];simp
   obtain⟨s2,p2⟩:=Z1 hI k2 h0 h1 (j:=3) (by rw[hw'];rfl) rfl (Zic (by decide) (by decide) (by decide)) (by rw[ha2]);have k3:=Zd7 hI k2 s2 (Y7 _) ha2;refine⟨4,Yb _,?_⟩;have e4:m.steps_ 4=(m.step.steps_ 2).step:=by
    show m.steps_ (1+3)=_
    rw[Za6];rfl
   rw[e4];exact k3
  .rw[if_neg c] at k1⊢
   refine⟨1,by decide,?_⟩;have e:S.u32m (S.u32m (m.place+1)+S.u32m 3)=I.adr (i+1):=by
    rw[p1,hsz'];unfold S.u32m;omega
   rw[e] at k1;exact k1
end
end
namespace S
structure Obj where
 name:ByteArray
 items:List Item
def ownB (s:ByteArray):Bool:=s.data.toList.head?==some 46
def owned (n s:ByteArray):ByteArray:=if ownB s=true then n++s else s
def ownItem (n:ByteArray)(x:Item):Item:=⟨x.kind,x.inst,owned n x.label,x.word⟩
def itemsOf (o:Obj):List Item:=o.items.map (ownItem o.name)
def joined (os:List Obj):List Item:=os.flatMap itemsOf
def DupN (os:List Obj):Prop:=∃i j:Nat,∃a b:Obj,j<i/\os[i]?=some a/\os[j]?=some b/\a.name=b.name
def badN (o:Obj):Bool:=o.name.data.toList.isEmpty || ownB o.name
def NamesRes (os:List Obj)(r:Int):Prop:=(DupN os/\r=14)\/(¬DupN os/\(∃o∈os,badN o=true)/\r=2)\/(¬DupN os/\(∀o∈os,badN o=false)/\r=0)
def findP:List (ByteArray×Int)->ByteArray->Option Int
 | [],_=>none
 | p::r,s=>if p.1=s then some p.2 else findP r s
end S
theorem Zmx {os:List S.Obj}{r t:Int}(h:S.NamesRes os r)(k:S.NamesRes os t):r=t:=by
 rcases h with⟨h1,rfl⟩|⟨h1,⟨o,ho,hb⟩,rfl⟩|⟨h1,h2,rfl⟩
 .rcases k with⟨k1,rfl⟩|⟨k1,_⟩|⟨k1,_⟩
  .rfl
  .exact absurd h1 k1
  .exact absurd h1 k1
 .rcases k with⟨k1,rfl⟩|⟨k1,_,rfl⟩|⟨k1,k2,rfl⟩
  .exact absurd k1 h1
  .rfl
  .rw[k2 o ho] at hb;cases hb
 .rcases k with⟨k1,rfl⟩|⟨k1,⟨o,ho,hb⟩,rfl⟩|⟨k1,k2,rfl⟩
  .exact absurd k1 h1
  .rw[h2 o ho] at hb;cases hb
  .rfl
theorem Zr3 (n s:ByteArray):(S.owned n s).size<=n.size+s.size:=by
 unfold S.owned
 split
 .simp[ByteArray.size_append]
 .omega
namespace S
inductive BO where
 | ret (st:Vw)
 | halt (code:Int) (st:Vw)
 | left (tq:Int) (st:Vw)
structure Mt (I:Img)(V st:Vw):Prop where
 vis:∀n,visB n=true->V.reg n=st.reg n
 mem:∀a,0<=a->a<I.size->¬I.stk a->V.mem a=st.mem a
 inp:V.inp=st.inp
 out:V.out=st.out
structure Fr (V:Vw)(base lk:Int)(env ts:List Int):Prop where
 lk:V.mem base=lk
 env:∀k,k<env.length->V.mem (base+1+k)=env.getD k 0
 ts:∀k,k<ts.length->V.reg (11+k)=ts.getD k 0
def Kp (I:Img)(base:Int)(V V':Vw):Prop:=∀a,I.lo<=a->a<base->V'.mem a=V.mem a
def backTo (behind:Bool)(V:Vw)(ret:Int):Int:=if behind=true then u32m (u32m (ret+V.mem ret)+1) else ret
def Done (I:Img)(V:Vw)(a:Int)(k:Nat)(top ret:Int)(behind:Bool):BO->Prop
 | .ret st=>∃V',Go I V a k V' (backTo behind V' ret)/\Mt I V' st/\V'.reg 28=top/\Kp I top V V'
 | .halt code st=>∃V',GoH I V a k V' code/\Mt I V' st
 | .left tq st=>∃V',Go I V a k V' tq/\Mt I V' st/\V'.reg 28=top/\Kp I top V V'
def Real (I:Img)(name:ByteArray)(behind:Bool)(st:Vw)(d:Int)(R:Int->BO->Nat->Prop):Prop :=
 ∀V top ret,Mt I V st->V.reg 28=top->V.reg 31=ret->0<=ret->ret<I.size->I.lo<=top->top+d<=I.hi->∃o k,R ret o k/\Done I V (I.lab name) k top ret behind o
def Vw.args (st:Vw)(vs:List Int):Vw:={ st with reg:=λ j=>if 4<=j/\j<4+vs.length then vs.getD (j-4).toNat 0 else st.reg j }
def Vw.regs (st:Vw):List Int->List Int->Vw
 | n::r,v::vs=>(st.set n v).regs r vs
 | _,_=>st
def wpOp (I:Img)(dep lk:Int)(op n:Int)(name:ByteArray)(at_:Nat)(env vs:List Int)(st:Vw)(c:Nat)(Q:Int->Vw->Nat->Prop)(H:Int->Vw->Nat->Prop):Prop :=
 if op=1 then Q (n%4294967296) st (c+2)
 else if op=2 then Q (env.getD n.toNat 0) st (c+1)
 else if op=3 then Q (st.reg n) st (c+1)
 else if op=4 then(vs.getD 1 0=0->n≠5/\n≠6)/\Q (alu n (vs.getD 0 0) (vs.getD 1 0)) st (c+1)
 else if op=5 then u32m (vs.getD 0 0+n)<I.size/\¬I.stk (u32m (vs.getD 0 0+n))/\Q (st.mem (u32m (vs.getD 0 0+n))) st (c+1)
 else if op=6 then ∃d R,Real I name false (st.args vs) d R/\d<=dep/\∀ret o k,R ret o k->(match o with
  | .ret st2=>Q (st2.reg 4) st2 (c+2*at_+vs.length+4+k)
  | .halt code st2=>H code st2 (c+2*at_+vs.length+4+k)
  | .left _ _=>False)
 else if op=7 then Q (if vs.getD 0 0=vs.getD 1 0 then 1 else 0) st (c+3)
 else if op=8 then Q (inByte st.inp) { st with inp:=st.inp.tail } (c+1)
 else if op=9 then Q (I.lab name) st (c+2)
 else if op=10 then Q lk st (c+1)
 else False
mutual
def wpE (I:Img)(dep lk:Int)(env:List Int):BE->Nat->Vw->Nat->(Int->Vw->Nat->Prop)->(Int->Vw->Nat->Prop)->Prop
 | .mk op n name kids,at_,st,c,Q,H=>wpEs I dep lk env kids at_ st c (λ vs st1 c1=>wpOp I dep lk op n name at_ env vs st1 c1 Q H) H
def wpEs (I:Img)(dep lk:Int)(env:List Int):List BE->Nat->Vw->Nat->(List Int->Vw->Nat->Prop)->(Int->Vw->Nat->Prop)->Prop
 | [],_,st,c,Q,_=>Q [] st c
 | e::r,at_,st,c,Q,H=>wpE I dep lk env e at_ st c (λ v st1 c1=>wpEs I dep lk env r (at_+1) st1 c1 (λ vs st2 c2=>Q (v::vs) st2 c2) H) H
end
mutual
def wpS (I:Img)(dep lk:Int)(behind:Bool):BS->List Int->Vw->Nat->(List Int->Vw->Nat->Prop)->(BO->Nat->Prop)->Prop
 | .mk op n name exprs regs body els,env,st,c,Q,R =>
  if op=4 then
   ∃J:List Int->Vw->Nat->Nat->Prop,(∃k,J env st c k)/\∀env st c k,J env st c k ->
    wpEs I dep lk env exprs 0 st c (λ vs st1 c1=>if vs.getD 0 0=0 then Q env st1 (c1+4) else
     wpSs I dep lk behind body env st1 (c1+4) (λ Zjx st2 c2=>∃k2,k2<k/\J Zjx st2 (c2+3) k2) R) (λ code st c=>R (.halt code st) c)
  else
   wpEs I dep lk env exprs 0 st c (λ vs st1 c1 =>
    if op=1 then Q (env.set n.toNat (vs.getD 0 0)) st1 (c1+1)
    else if op=2 then u32m (vs.getD 0 0+n)<I.size/\¬I.stk (u32m (vs.getD 0 0+n))/\¬I.code (u32m (vs.getD 0 0+n))/\Q env (st1.sto (u32m (vs.getD 0 0+n)) (vs.getD 1 0)) (c1+1)
    else if op=3 then(if vs.getD 0 0=0 then wpSs I dep lk behind els env st1 (c1+4) Q R else wpSs I dep lk behind body env st1 (c1+4) (λ Zjx st2 c2=>Q Zjx st2 (c2+3)) R)
    else if op=5 then R (.ret (st1.regs regs vs)) (c1+regs.length+(if behind=true then 5 else 3))
    else if op=6 then Q env st1 c1
    else if op=7 then Q env { st1 with out:=st1.out++[vs.getD 0 0%256] } (c1+1)
    else if op=8 then R (.halt (vs.getD 0 0) st1) (c1+1)
    else if op=9 then Q env (st1.set n (vs.getD 0 0)) (c1+1)
    else if op=10 then R (.left (I.lab name) st1) (c1+4)
    else if op=11 then R (.left (vs.getD 0 0) st1) (c1+2)
    else False) (λ code st c=>R (.halt code st) c)
def wpSs (I:Img)(dep lk:Int)(behind:Bool):List BS->List Int->Vw->Nat->(List Int->Vw->Nat->Prop)->(BO->Nat->Prop)->Prop
 | [],env,st,c,Q,_=>Q env st c
 | s::r,env,st,c,Q,R=>wpS I dep lk behind s env st c (λ Zz0 st1 c1=>wpSs I dep lk behind r Zz0 st1 c1 Q R) R
end
structure Seg (I:Img)(obj:ByteArray)(i:Nat)(ys:List Item):Prop where
 at_:∀k x,ys[k]?=some x->I.xs[i+k]?=some (ownItem obj x)
 lo:I.i0<=i
 hi:i+ys.length<=I.i1
end S
theorem S.Seg.left {I:S.Img}{obj:ByteArray}{i:Nat}{ys zs:List S.Item}(h:S.Seg I obj i (ys++zs)):S.Seg I obj i ys :=
 ⟨λ k x hx=>h.at_ k x (by rw[Ym (List.getElem?_eq_some_iff.1 hx).1];exact hx),h.lo,by have:=h.hi;rw[Yd] at this;omega⟩
theorem S.Seg.right {I:S.Img}{obj:ByteArray}{i:Nat}{ys zs:List S.Item}(h:S.Seg I obj i (ys++zs)):S.Seg I obj (i+ys.length) zs :=
 ⟨λ k x hx=>by
  have:=h.at_ (ys.length+k) x (by rw[Yo (by omega),Yaq];exact hx);rw[<- Ybo] at this;exact this,by have:=h.lo;omega,by have:=h.hi;rw[Yd] at this;omega⟩
theorem S.Seg.head {I:S.Img}{obj:ByteArray}{i:Nat}{y:S.Item}{ys:List S.Item}(h:S.Seg I obj i (y::ys)):I.xs[i]?=some (S.ownItem obj y):=h.at_ 0 y rfl
theorem S.Seg.tail {I:S.Img}{obj:ByteArray}{i:Nat}{y:S.Item}{ys:List S.Item}(h:S.Seg I obj i (y::ys)):S.Seg I obj (i+1) ys:=S.Seg.right (ys:=[y]) h
theorem S.Seg.lt {I:S.Img}{obj:ByteArray}{i:Nat}{y:S.Item}{ys:List S.Item}(h:S.Seg I obj i (y::ys)):i<I.i1:=by have:=h.hi;simp at this;omega
theorem Zeo (obj:ByteArray){s:ByteArray}(h:S.labB s=true):S.owned obj s=s:=by
 unfold S.owned;rw[if_neg];intro h2;unfold S.labB S.dotted at h;unfold S.ownB at h2;rw[h2] at h;simp at h
theorem S.Mt.refl_ {I:S.Img}(V:S.Vw):S.Mt I V V:=⟨λ _ _=>rfl,λ _ _ _ _=>rfl,rfl,rfl⟩
theorem S.Kp.refl (I:S.Img)(base:Int)(V:S.Vw):S.Kp I base V V:=λ _ _ _=>rfl
theorem S.Kp.trans {I:S.Img}{base:Int}{V V' V2:S.Vw}(h:S.Kp I base V V')(h2:S.Kp I base V' V2):S.Kp I base V V2:=λ a h0 h1=>(h2 a h0 h1).trans (h a h0 h1)
theorem Zke {n:Int}(h:S.visB n=true):n≠25/\n≠28/\n≠31/\n≠0/\(n<=10\/26<=n)/\1<=n/\n<=30:=by
 unfold S.visB at h;rw[decide_eq_true_eq] at h;omega
section
namespace S
structure Fm (I:Img)(V st:Vw)(base lk:Int)(env ts:List Int):Prop where
 mt:Mt I V st
 sp:V.reg 28=base+env.length+15
 fr:Fr V base lk env ts
structure Cx (I:Img)(L dep lk base:Int):Prop where
 ok:I.Ok
 lo:I.lo<=base
 top:base+L+15+dep<=I.hi
 dep0:0<=dep
 L0:0<=L
 L1:L<=200
 lk0:0<=lk
 lk1:lk<I.size
def OutE (I:Img)(V:Vw)(a b:Int)(c:Nat)(base lk:Int)(env ts:List Int)(Q:List Int->Vw->Nat->Prop)(H:Int->Vw->Nat->Prop):Prop :=
 (∃vs st' c' V',c<=c'/\Q vs st' c'/\Go I V a (c'-c) V' b/\Fm I V' st' base lk env (ts++vs)/\Kp I base V V') \/
 (∃code st' c' V',c<=c'/\H code st' c'/\GoH I V a (c'-c) V' code/\Mt I V' st')
end S
theorem Zj (V:S.Vw)(d v:Int):(V.set d v).reg d=v:=by show(if d=d then v else _)=v;rw[if_pos rfl]
theorem Zg (V:S.Vw){d j:Int}(v:Int)(h:j≠d):(V.set d v).reg j=V.reg j:=by show(if j=d then v else _)=_;rw[if_neg h]
theorem Zd9 (V:S.Vw)(d v:Int):(V.sto d v).mem d=v:=by show(if d=d then v else _)=v;rw[if_pos rfl]
theorem Zab (V:S.Vw){d j:Int}(v:Int)(h:j≠d):(V.sto d v).mem j=V.mem j:=by show(if j=d then v else _)=_;rw[if_neg h]
theorem S.Mt.hid {I:S.Img}{V st:S.Vw}(h:S.Mt I V st){d:Int}(hd:S.visB d=false)(v:Int):S.Mt I (V.set d v) st :=
 ⟨λ n hn=>by
  rw[Zg _ _ (λ e=>by subst e;rw[hd] at hn;cases hn)];exact h.vis n hn,h.mem,h.inp,h.out⟩
theorem S.Mt.stack {I:S.Img}{V st:S.Vw}(h:S.Mt I V st){p:Int}(hp:I.stk p)(v:Int):S.Mt I (V.sto p v) st :=
 ⟨h.vis,λ a a0 a1 ha=>by
  rw[Zab _ _ (λ e:a=p=>ha (by rw[e];exact hp))];exact h.mem a a0 a1 ha,h.inp,h.out⟩
theorem Zzs {k:Nat}(h:k<14):S.visB (11+k)=false:=by
 unfold S.visB;rw[decide_eq_false_iff_not];omega
theorem Zid (ts:List Int)(v:Int)(k:Nat)(h:k<(ts++[v]).length):(ts++[v]).getD k 0=if k=ts.length then v else ts.getD k 0:=by
 by_cases c:k=ts.length
 .subst c;simp
 .rw[if_neg c]
  have:k<ts.length:=by simp at h;omega
  simp[Ym this]
theorem Zdx (ts vs:List Int)(k:Nat)(h:k<ts.length):(ts++vs).getD k 0=ts.getD k 0:=by
 simp[Ym h]
theorem Zgq (ts vs:List Int)(k:Nat):(ts++vs).getD (ts.length+k) 0=vs.getD k 0:=by
 simp[Yo]
theorem S.Fm.put {I:S.Img}{V st:S.Vw}{base lk:Int}{env ts vs:List Int}(h:S.Fm I V st base lk env (ts++vs))(hk:ts.length<14)(v:Int):S.Fm I (V.set (11+ts.length) v) st base lk env (ts++[v]):=by
 refine⟨h.mt.hid (Zzs hk) v,by rw[Zg _ _ (by omega)];exact h.sp,h.fr.lk,h.fr.env,λ k hl=>?_⟩;rw[Zid ts v k hl];by_cases c:k=ts.length
 .subst c;rw[if_pos rfl,Zj]
 .rw[if_neg c,Zg _ _ (by omega)]
  have hlt:k<ts.length:=by simp at hl;omega
  rw[h.fr.ts k (by simp;omega),Zdx ts vs k hlt]
theorem S.Fm.over {I:S.Img}{V st:S.Vw}{base lk:Int}{env ts:List Int}(h:S.Fm I V st base lk env ts){k:Nat}(hk:k<14)(hk2:ts.length<=k)(v:Int):S.Fm I (V.set (11+k) v) st base lk env ts :=
 ⟨h.mt.hid (Zzs hk) v,by rw[Zg _ _ (by omega)];exact h.sp,⟨h.fr.lk,h.fr.env,λ j hj=>by rw[Zg _ _ (by omega)];exact h.fr.ts j hj⟩⟩
theorem S.Fm.val {I:S.Img}{V st:S.Vw}{base lk:Int}{env ts vs:List Int}(h:S.Fm I V st base lk env (ts++vs)){k:Nat}(hk:k<vs.length):V.reg (11+ts.length+k)=vs.getD k 0:=by
 have:=h.fr.ts (ts.length+k) (by simp;omega);rw[Zgq] at this;rw[<- this]
 congr 1
 omega
theorem Zbr (fr L:Int):(∀k,(S.bStores fr L k).length=k)/\(∀k,(S.bLoads fr L k).length=k)/\(∀a k,(S.bArgs a k).length=k):=by
 refine⟨λ k=>?_,λ k=>?_,λ a k=>?_⟩
 all_goals
  induction k with
  | zero=>rfl
  | succ k ih=>first | (rw[S.bStores,Yd,ih];rfl) | (rw[S.bLoads,Yd,ih];rfl) | (rw[S.bArgs,Yd,ih];rfl)
section
variable {I:S.Img}{L dep lk base:Int}(cx:S.Cx I L dep lk base){obj:ByteArray}
include cx
theorem Zqp {V:S.Vw}{p:Int}(hsp:V.reg 28=base+L+15)(h0:0<=p)(h1:p<L+15):S.u32m (V.reg 28+(p-(L+15)))=base+p/\base+p<I.size/\¬I.code (base+p)/\I.stk (base+p):=by
 obtain⟨ok,lo,top,dep0,_,_,_,_⟩:=cx;have h2:=ok.lo0;have h3:=ok.hisz;have h4:=ok.size2;refine⟨?_,by omega,?_,by omega,by omega⟩
 .rw[hsp];unfold S.u32m;omega
 .rintro⟨q0,q1⟩
  rcases ok.apart with h|h <;> omega
theorem Zld {V:S.Vw}{i:Nat}{d p:Int}{r:List S.Item}(hs:S.Seg I obj i (S.bLoad (L+15) d p::r))(hsp:V.reg 28=base+L+15)(h0:0<=p)(h1:p<L+15)(hd:0<d)(hd2:d<=31) :
 S.Go I V (I.adr i) 1 (V.set d (V.mem (base+p))) (I.adr (i+1)):=by
 obtain⟨e1,e2,e3,e4⟩:=Zqp cx (V:=V) hsp h0 h1;exact Z02 cx.ok hs.lo hs.lt hs.head hd hd2 (by decide) e1.symm e2
theorem Zmy {V:S.Vw}{i:Nat}{b p:Int}{r:List S.Item}(hs:S.Seg I obj i (S.bStore (L+15) b p::r))(hsp:V.reg 28=base+L+15)(h0:0<=p)(h1:p<L+15)(hb:0<=b/\b<=31/\b≠25) :
 S.Go I V (I.adr i) 1 (V.sto (base+p) (V.reg b)) (I.adr (i+1)):=by
 obtain⟨e1,e2,e3,e4⟩:=Zqp cx (V:=V) hsp h0 h1;exact Ztu cx.ok hs.lo hs.lt hs.head (by decide) hb e1.symm e2 e3
theorem Zfu {V:S.Vw}{i:Nat}{d a:Int}{r:List S.Item}(hs:S.Seg I obj i (S.bMove d a::r))(hd:0<d)(hd2:d<=31)(ha:0<=a/\a<=31/\a≠25):S.Go I V (I.adr i) 1 (V.set d (V.reg a)) (I.adr (i+1)) :=
 Z01 cx.ok hs.lo hs.lt hs.head hd hd2 ha
theorem Zmz {V:S.Vw}{i:Nat}(hsp:V.reg 28=base+L+15):∀k:Nat,k<=14->S.Seg I obj i (S.bStores (L+15) L k)->∃V',S.Go I V (I.adr i) k V' (I.adr (i+k))/\V'.reg=V.reg/\(∀j:Nat,j<k->V'.mem (base+1+L+j)=V.reg (11+j)) /\
 (∀a:Int,a<base+1+L\/base+L+15<=a->V'.mem a=V.mem a)/\V'.inp=V.inp/\V'.out=V.out
 | 0,_,_=>⟨V,Zdi _ _ _,rfl,λ j hj=>by omega,λ _ _=>rfl,rfl,rfl⟩
 | k+1,hk,hs=>by
  obtain⟨V1,h1,h2,h3,h4,h5,h6⟩:=Zmz hsp k (by omega) hs.left;have hs2:=hs.right;rw[(Zbr _ _).1] at hs2;have hL:=cx.L0;have h7:=Zmy cx (V:=V1) hs2 (by rw[h2];exact hsp) (p:=1+L+k) (by omega) (by omega) (by omega);refine⟨_,h1.trans h7,h2,λ j hj=>?_,λ a ha=>?_,h5,h6⟩
  .by_cases c:j=k
   .subst c
    have e:base+1+L+(j:Int)=base+(1+L+j):=by omega
    rw[e,Zd9,h2]
   .rw[Zab _ _ (by omega)];exact h3 j (by omega)
  .rw[Zab _ _ (by omega)];exact h4 a ha
theorem Zqq {V:S.Vw}{i:Nat}(hsp:V.reg 28=base+L+15):∀k:Nat,k<=14->S.Seg I obj i (S.bLoads (L+15) L k)->∃V',S.Go I V (I.adr i) k V' (I.adr (i+k))/\V'.mem=V.mem/\(∀j:Nat,j<k->V'.reg (11+j)=V.mem (base+1+L+j)) /\
 (∀a:Int,a<11\/11+k<=a->V'.reg a=V.reg a)/\V'.inp=V.inp/\V'.out=V.out
 | 0,_,_=>⟨V,Zdi _ _ _,rfl,λ j hj=>by omega,λ _ _=>rfl,rfl,rfl⟩
 | k+1,hk,hs=>by
  obtain⟨V1,h1,h2,h3,h4,h5,h6⟩:=Zqq hsp k (by omega) hs.left;have hs2:=hs.right;rw[(Zbr _ _).2.1] at hs2;have hL:=cx.L0;have h7:=Zld cx (V:=V1) hs2 (by rw[h4 _ (by omega)];exact hsp) (p:=1+L+k) (by omega) (by omega) (by omega) (by omega);refine⟨_,h1.trans h7,h2,λ j hj=>?_,λ a ha=>?_,h5,h6⟩
  .by_cases c:j=k
   .subst c
    have e:base+1+L+(j:Int)=base+(1+L+j):=by omega
    rw[e,Zj,h2]
   .rw[Zg _ _ (by omega)];exact h3 j (by omega)
  .rw[Zg _ _ (by omega)];exact h4 a (by omega)
theorem Ztz {V:S.Vw}{i:Nat}{at_:Nat}:∀k:Nat,k<=4->at_+k<=14->S.Seg I obj i (S.bArgs at_ k)->∃V',S.Go I V (I.adr i) k V' (I.adr (i+k))/\V'.mem=V.mem/\(∀j:Nat,j<k->V'.reg (4+j)=V.reg (11+at_+j)) /\
 (∀a:Int,a<4\/4+k<=a->V'.reg a=V.reg a)/\V'.inp=V.inp/\V'.out=V.out
 | 0,_,_,_=>⟨V,Zdi _ _ _,rfl,λ j hj=>by omega,λ _ _=>rfl,rfl,rfl⟩
 | k+1,hk,hk2,hs=>by
  obtain⟨V1,h1,h2,h3,h4,h5,h6⟩:=Ztz k (by omega) (by omega) hs.left;have hs2:=hs.right;rw[(Zbr 0 0).2.2] at hs2;have h7:=Zfu cx (V:=V1) hs2 (by omega) (by omega) (by omega);refine⟨_,h1.trans h7,h2,λ j hj=>?_,λ a ha=>?_,h5,h6⟩
  .by_cases c:j=k
   .subst c
    rw[Zj,h4 _ (by omega)]
   .rw[Zg _ _ (by omega)];exact h3 j (by omega)
  .rw[Zg _ _ (by omega)];exact h4 a (by omega)
theorem Zxy {V:S.Vw}{i:Nat}{d n:Int}{r:List S.Item}(hs:S.Seg I obj i (S.bConst d n++r))(hn:-2147483648<=n/\n<=4294967295)(hd:0<d)(hd2:d<=24) :
 S.Go I V (I.adr i) 2 (V.set d (n%4294967296)) (I.adr (i+(S.bConst d n).length)):=Zxw λ m hm=>by
 unfold S.bConst at hs⊢;by_cases c:-32768<=n/\n<32768
 .rw[if_pos c] at hs⊢
  have h:=Zd8 cx.ok hs.lo hs.lt (V:=V) hs.head hd (by omega) (by decide);have e:S.u32m (V.reg 0+n)=n%4294967296:=by rw[hm.zero];unfold S.u32m;omega
  rw[e] at h;exact h.more (by decide)
 .rw[if_neg c] at hs⊢
  have h:=Z3h cx.ok hs.lo hs.lt (V:=V) hs.head hd (by omega) (by omega);have h2:=Zzq cx.ok hs.tail.lo hs.tail.lt (V:=V.set d (n%4294967296/65536*65536)) hs.tail.head (by decide) hd (by omega) (by omega);have e:S.alu (S.like 17) ((V.set d (n%4294967296/65536*65536)).reg d) (S.u32m (n%4294967296%65536))=n%4294967296:=by
   have e1:S.u32m (n%4294967296%65536)=n%4294967296%65536:=by unfold S.u32m;omega
   rw[Zj,e1];exact Ztx (by omega) (by omega)
  rw[e] at h2;refine(h.trans h2).ext (λ j _ _ _=>?_) (λ _ _ _=>rfl) rfl rfl;by_cases c2:j=d
  .subst c2;rw[Zj,Zj]
  .rw[Zg _ _ c2,Zg _ _ c2,Zg _ _ c2]
theorem Zxz {V st:S.Vw}{env ts vs:List Int}{op n:Int}{name:ByteArray}{kids:Nat}{i c:Nat}{Q:Int->S.Vw->Nat->Prop}{H:Int->S.Vw->Nat->Prop}(hL:(env.length:Int)=L)(hop:S.headE L op n name kids=true)
 (hat:ts.length+max 1 kids<=14) (hvs:vs.length=kids) (hw:S.wpOp I dep lk op n name ts.length env vs st c Q H) (hs:S.Seg I obj i (S.bOp (L+15) L op n name kids ts.length)) (hV:S.Fm I V st base lk env (ts++vs)) :
 S.OutE I V (I.adr i) (I.adr (i+(S.bOp (L+15) L op n name kids ts.length).length)) c base lk env ts (λ us st' c'=>∃v,us=[v]/\Q v st' c') H:=by
 have hL0:=cx.L0;have hk14:ts.length<14:=by omega
 have hsp:V.reg 28=base+L+15:=by rw[<- hL];exact hV.sp
 unfold S.headE at hop;simp only[Bool.and_eq_true,decide_eq_true_eq] at hop;obtain⟨⟨⟨⟨hr,hn⟩,hkk⟩,hnm⟩,hlb⟩:=hop;unfold S.wpOp at hw;unfold S.bOp at hs⊢;unfold S.numE at hn;have fin:∀(v:Int)(k:Nat)(b:Int),S.Go I V (I.adr i) k (V.set (11+(ts.length:Int)) v) b->Q v st (c+k)->S.OutE I V (I.adr i) b c base lk env ts (λ us st' c'=>∃v,us=[v]/\Q v st' c') H:=λ v k b hg hq =>
  .inl ⟨[v],st,c+k,_,by omega,⟨v,rfl,hq⟩,by rw[Yaq];exact hg,hV.put hk14 v,λ _ _ _=>rfl⟩
 by_cases c1:op=1
 .rw[if_pos c1] at hw hs hn⊢
  have hn':=of_decide_eq_true hn;have h:=Zxy cx (V:=V) (r:=[]) (by rw[Yba];exact hs) hn' (d:=11+ts.length) (by omega) (by omega);exact fin _ 2 _ h hw
 rw[if_neg c1] at hw hs hn⊢;by_cases c2:op=2
 .rw[if_pos c2] at hw hs hn⊢
  have hn':=of_decide_eq_true hn;have h:=Zld cx (V:=V) hs hsp (by omega) (by omega) (by omega) (by omega);have e:V.mem (base+(1+n))=env.getD n.toNat 0:=by
   have:=hV.fr.env n.toNat (by omega);rw[<- this]
   congr 1
   omega
  rw[e] at h;exact fin _ 1 _ h hw
 rw[if_neg c2] at hw hs hn⊢;by_cases c3:op=3
 .rw[if_pos c3] at hw hs hn⊢
  have hvis:=Zke hn;have h:=Zfu cx (V:=V) hs (by omega) (by omega) (by omega);rw[hV.mt.vis n hn] at h;exact fin _ 1 _ h hw
 rw[if_neg c3] at hw hs hn⊢;by_cases c4:op=4
 .rw[if_pos c4] at hw hs hn⊢
  have hn':=of_decide_eq_true hn;have hk2:kids=2:=by rw[hkk];unfold S.kidsE;rw[if_pos (.inl c4)]
  have v0:=hV.val (k:=0) (by omega);have v1:=hV.val (k:=1) (by omega);have e0:V.reg (11+ts.length)=vs.getD 0 0:=by simpa using v0
  have e1:V.reg (12+ts.length)=vs.getD 1 0:=by
   rw[<- v1];congr 1;omega
  have h:=Ztt cx.ok hs.lo hs.lt (V:=V) hs.head (by omega) (by omega) (by omega) (by omega) (by omega) (λ q=>hw.1 (by rw[<- e1];exact q));rw[e0,e1] at h;exact fin _ 1 _ h hw.2
 rw[if_neg c4] at hw hs hn⊢;by_cases c5:op=5
 .rw[if_pos c5] at hw hs hn⊢
  have hk1:kids=1:=by rw[hkk];unfold S.kidsE;rw[if_neg (by omega),if_pos c5]
  have v0:=hV.val (k:=0) (by omega);have e0:V.reg (11+ts.length)=vs.getD 0 0:=by simpa using v0
  obtain⟨w1,w2,w3⟩:=hw;have h:=Z02 cx.ok hs.lo hs.lt (V:=V) hs.head (p:=S.u32m (vs.getD 0 0+n)) (by omega) (by omega) (by omega) (by rw[e0]) w1;rw[hV.mt.mem _ (Zav _).1 w1 w2] at h;exact fin _ 1 _ h w3
 rw[if_neg c5] at hw hs hn⊢;by_cases c6:op=6
 .rw[if_pos c6] at hw hs⊢
  have hkid:kids<=4:=by rw[hkk];unfold S.kidsE;rw[if_neg (by omega),if_neg c5,if_pos c6];omega
  have hlab:S.labB name=true:=by
   have:S.namedE op=true:=by unfold S.namedE;rw[decide_eq_true_eq];exact .inl c6
   rw[this] at hlb
   simpa using hlb
  obtain⟨d,R,hR,hd,hQ⟩:=hw;unfold S.bCall at hs⊢;obtain⟨V1,g1,r1,m1,k1,i1,o1⟩:=Zmz cx hsp ts.length (by omega) hs.left.left.left.left;have hs2:=hs.left.left.left.right;rw[(Zbr _ _).1] at hs2;obtain⟨V2,g2,m2,a2,r2,i2,o2⟩:=Ztz cx (V:=V1) kids hkid (by omega) hs2;have hs3:=hs.left.left.right;rw[Yd,(Zbr _ _).1,(Zbr (L+15) L).2.2] at hs3;have hs3h:I.xs[i+(ts.length+kids)]?=some ⟨4,⟨0,31,0,0,0⟩,name,0⟩:=by
   have:=hs3.head
   show _=_
   rw[this]
   show some (⟨4,⟨0,31,0,0,0⟩,S.owned obj name,0⟩:S.Item)=_
   rw[Zeo obj hlab]
  have g3:=Zqo cx.ok hs3.lo hs3.lt (V:=V2) hs3h (by decide) (by decide);have hret:0<=I.adr (i+(ts.length+kids)+1)/\I.adr (i+(ts.length+kids)+1)<I.size:=by
   have h1:=Zo6 cx.ok (i+(ts.length+kids)+1);have h2:=Zdw cx.ok (i:=i+(ts.length+kids)+1) (j:=I.xs.length) (by have:=hs3.lt;have:=cx.ok.i1l;omega);have h3:=cx.ok.size;omega
  have hmt:S.Mt I (V2.set 31 (I.adr (i+(ts.length+kids)+1))) (st.args vs):=by
   refine(S.Mt.hid (V:=V2) ⟨λ j hj=>?_,λ a a0 a1 ha=>?_,by rw[i2,i1];exact hV.mt.inp,by rw[o2,o1];exact hV.mt.out⟩ (by decide) _)
   .show V2.reg j=if 4<=j/\j<4+(vs.length:Int) then vs.getD (j-4).toNat 0 else st.reg j
    by_cases cj:4<=j/\j<4+(vs.length:Int)
    .rw[if_pos cj]
     have e:=a2 (j-4).toNat (by omega);have e2:=hV.val (k:=(j-4).toNat) (by omega);rw[r1] at e;rw[<- e2,<- e]
     congr 1
     omega
    .rw[if_neg cj,r2 j (by omega),r1]
     exact hV.mt.vis j hj
   .rw[m2,k1 a ?_]
    .exact hV.mt.mem a a0 a1 ha
    .have:=cx.lo
     have:=cx.top;have:=cx.dep0;rcases Int.lt_or_le a (base+1+L) with q|q
     .exact .inl q
     .right
      by_cases q2:a<base+L+15
      .exact absurd ⟨by omega,by omega⟩ ha
      .omega
  have hsp3:(V2.set 31 (I.adr (i+(ts.length+kids)+1))).reg 28=base+L+15:=by
   rw[Zg _ _ (by decide),r2 _ (by omega),r1];exact hsp
  obtain⟨o,k,hRo,hD⟩:=hR _ (base+L+15) _ hmt hsp3 (Zj _ _ _) hret.1 hret.2 (by have:=cx.lo;omega) (by have:=cx.top;omega);have hQo:=hQ _ o k hRo;have g0:S.Go I V (I.adr i) (ts.length+kids+3) (V2.set 31 (I.adr (i+(ts.length+kids)+1))) (I.lab name):=(g1.trans (by rw[Ybo] at g2;exact g2)).trans g3
  cases o with
  | left tq st2=>exact absurd hQo id
  | halt code st2 =>
   obtain⟨V4,g4,mt4⟩:=hD;refine .inr ⟨code,st2,_,V4,?_,hQo,?_,mt4⟩
   .omega
   .refine(g0.halt g4).more ?_
    rw[hvs];omega
  | ret st2 =>
   obtain⟨V4,g4,mt4,sp4,kp4⟩:=hD;have g4':S.Go I (V2.set 31 (I.adr (i+(ts.length+kids)+1))) (I.lab name) k V4 (I.adr (i+(ts.length+kids)+1)):=g4;have hs5:=hs.left.right;rw[Yd,Yd,(Zbr _ _).1,(Zbr (L+15) L).2.2] at hs5;have e5:i+(ts.length+kids+[S.bJ 31 name].length)=i+(ts.length+kids)+1:=rfl;rw[e5] at hs5;obtain⟨V5,g5,m5,a5,r5,i5,o5⟩:=Zqq cx (V:=V4) sp4 ts.length (by omega) hs5;have hs6:=hs.right;rw[Yd,Yd,Yd,(Zbr _ _).1,(Zbr (L+15) L).2.2,(Zbr (L+15) L).2.1] at hs6;have e6:i+(ts.length+kids+[S.bJ 31 name].length+ts.length)=i+(ts.length+kids)+1+ts.length:=by simp;omega
   rw[e6] at hs6;have g6:=Zfu cx (V:=V5) hs6 (by omega) (by omega) (by decide);have hv:V5.reg 4=st2.reg 4:=by rw[r5 4 (by omega)];exact mt4.vis 4 (by decide)
   rw[hv] at g6;have hml:∀a,I.lo<=a->a<base+L+15->V5.mem a=V1.mem a:=λ a a0 a1=>by
    rw[m5,kp4 a a0 a1]
    show V2.mem a=_
    rw[m2]
   have hlo:=cx.lo;have hFm:S.Fm I V5 st2 base lk env (ts++[]):=by
    refine⟨⟨λ j hj=>?_,λ a a0 a1 ha=>by rw[m5];exact mt4.mem a a0 a1 ha,by rw[i5];exact mt4.inp,by rw[o5];exact mt4.out⟩,?_,?_,?_,?_⟩
    .have:=Zke hj
     rw[r5 j (by omega)];exact mt4.vis j hj
    .rw[r5 28 (by omega),sp4,hL]
    .rw[hml base hlo (by omega),k1 base (by omega)];exact hV.fr.lk
    .intro k2 hk2
     rw[hml _ (by omega) (by omega),k1 _ (by omega)];exact hV.fr.env k2 hk2
    .intro k2 hk2
     rw[Yba] at hk2⊢;rw[a5 k2 hk2,<- m5,hml _ (by omega) (by omega),m1 k2 hk2,hV.fr.ts k2 (by simp;omega),Zdx ts vs k2 hk2]
   refine .inl ⟨[st2.reg 4],st2,_,_,?_,⟨_,rfl,hQo⟩,?_,hFm.put hk14 _,λ a a0 a1=>?_⟩
   .omega
   .have gg:=((g0.trans g4').trans g5).trans g6
    have el:i+(S.bStores (L+15) L ts.length++S.bArgs ts.length kids++[S.bJ 31 name]++S.bLoads (L+15) L ts.length++[S.bMove (11+↑ts.length) 4]).length=i+(ts.length+kids)+1+ts.length+1:=by
     simp only[Yd,(Zbr (L+15) L).1,(Zbr (L+15) L).2.1,(Zbr (L+15) L).2.2,List.length_cons,List.length_nil];omega
    rw[el];refine gg.more ?_;rw[hvs];omega
   .show V5.mem a=V.mem a
    rw[hml a a0 (by omega),k1 a (by omega)]
 rw[if_neg c6] at hw hs⊢;by_cases c7:op=7
 .rw[if_pos c7] at hw hs⊢
  have hk2:kids=2:=by rw[hkk];unfold S.kidsE;rw[if_pos (.inr c7)]
  have v0:=hV.val (k:=0) (by omega);have v1:=hV.val (k:=1) (by omega);have e0:V.reg (11+ts.length)=vs.getD 0 0:=by simpa using v0
  have e1:V.reg (12+ts.length)=vs.getD 1 0:=by
   rw[<- v1];congr 1;omega
  obtain⟨v,hv⟩:∃v:Int,v=if vs.getD 0 0=vs.getD 1 0 then 1 else 0:=⟨_,rfl⟩
  have g:S.Go I V (I.adr i) 3 ((V.set (11+ts.length) v).set (11+(ts.length+1:Nat)) 1) (I.adr (i+3)):=Zxw λ m hm=>by
   have b0:=hm.rbd (j:=11+ts.length) (by omega) (by omega) (by omega);have b1:=hm.rbd (j:=12+ts.length) (by omega) (by omega) (by omega);have hs1:=hs.left.left;have g1:=Ztt cx.ok hs1.lo hs1.lt (V:=V) hs1.head (by decide) (by omega) (by omega) (by omega) (by omega) (λ _=>by decide);have hs2:=hs.left.right;have g2:=Zd8 cx.ok hs2.lo hs2.lt (V:=V.set (11+ts.length) (S.alu 9 (V.reg (11+ts.length)) (V.reg (12+ts.length)))) (d:=12+ts.length) (a:=0) (n:=1) hs2.head (by omega) (by omega) (by decide);have ez:S.u32m ((V.set (11+ts.length) (S.alu 9 (V.reg (11+ts.length)) (V.reg (12+ts.length)))).reg 0+1)=1:=by
    rw[Zg _ _ (by omega),hm.zero];decide
   rw[ez] at g2;have hs3:=hs.right;have g3:=Ztt cx.ok hs3.lo hs3.lt (V:=(V.set (11+ts.length) (S.alu 9 (V.reg (11+ts.length)) (V.reg (12+ts.length)))).set (12+ts.length) 1) hs3.head (by decide) (by omega) (by omega) (by omega) (by omega) (λ _=>by decide);have ev:S.alu 14 (((V.set (11+ts.length) (S.alu 9 (V.reg (11+ts.length)) (V.reg (12+ts.length)))).set (12+ts.length) 1).reg (11+ts.length)) (((V.set (11+ts.length) (S.alu 9 (V.reg (11+ts.length)) (V.reg (12+ts.length)))).set (12+ts.length) 1).reg (12+ts.length))=v:=by
    rw[Zj,Zg _ _ (by omega),Zj,e0,e1,hv];rw[e0] at b0;rw[e1] at b1
    show S.truth (bits .xor .u32 (vs.getD 0 0) (vs.getD 1 0)<1)=_
    rw[u32_xor b0.1 b0.2 b1.1 b1.2];unfold S.truth;by_cases ce:vs.getD 0 0=vs.getD 1 0
    .rw[if_pos ce,ce,if_pos (by simp)]
    .rw[if_neg ce,if_neg]
     intro q;have q0:(vs.getD 0 0).toNat ^^^ (vs.getD 1 0).toNat=0:=by omega
     have q1:(vs.getD 0 0).toNat=(vs.getD 1 0).toNat:=by
      have:=congrArg (· ^^^ (vs.getD 1 0).toNat) q0
      simpa[Nat.xor_assoc] using this
     omega
   rw[ev] at g3;refine((g1.trans g2).trans g3).ext (λ j _ _ _=>?_) (λ _ _ _=>rfl) rfl rfl;by_cases j1:j=11+(ts.length:Int)
   .subst j1
    rw[Zj,Zg _ _ (by omega),Zj]
   .rw[Zg _ _ j1]
    by_cases j2:j=11+((ts.length+1:Nat):Int)
    .have e12:j=12+(ts.length:Int):=by omega
     rw[j2,Zj,<- j2,e12,Zj]
    .rw[Zg _ _ (by omega),Zg _ _ j1,Zg _ _ j2,Zg _ _ j1]
  refine .inl ⟨[v],st,c+3,_,by omega,⟨v,rfl,by rw[hv];exact hw⟩,by rw[Yaq];exact g,(hV.put hk14 v).over (by omega) (by simp) 1,λ _ _ _=>rfl⟩
 rw[if_neg c7] at hw hs⊢;by_cases c8:op=8
 .rw[if_pos c8] at hw hs⊢
  have g:=Z5m cx.ok hs.lo hs.lt (V:=V) hs.head (by omega) (by omega);have hV':S.Fm I { V with inp:=V.inp.tail } { st with inp:=st.inp.tail } base lk env (ts++vs) :=
   ⟨⟨hV.mt.vis,hV.mt.mem,by show V.inp.tail=st.inp.tail;rw[hV.mt.inp],hV.mt.out⟩,hV.sp,⟨hV.fr.lk,hV.fr.env,hV.fr.ts⟩⟩
  obtain⟨v,hv⟩:∃v:Int,v=S.inByte V.inp:=⟨_,rfl⟩
  rw[<- hv] at g;rw[<- hV.mt.inp] at hw hV';rw[<- hv] at hw;exact .inl ⟨[v],_,c+1,_,by omega,⟨v,rfl,hw⟩,by rw[Yaq];exact g,hV'.put hk14 v,λ _ _ _=>rfl⟩
 rw[if_neg c8] at hw hs⊢;by_cases c9:op=9
 .rw[if_pos c9] at hw hs⊢
  have hlab:S.labB name=true:=by
   have:S.namedE op=true:=by unfold S.namedE;rw[decide_eq_true_eq];exact .inr c9
   rw[this] at hlb
   simpa using hlb
  have hh:I.xs[i]?=some ⟨5,⟨0,11+ts.length,0,0,0⟩,name,0⟩:=by
   rw[hs.head]
   show some (⟨5,⟨0,11+ts.length,0,0,0⟩,S.owned obj name,0⟩:S.Item)=_
   rw[Zeo obj hlab]
  have g:=Z06 cx.ok hs.lo hs.lt (V:=V) hh (by omega) (by omega) (by omega);exact fin _ 2 _ g hw
 rw[if_neg c9] at hw hs⊢;by_cases c10:op=10
 .rw[if_pos c10] at hw hs⊢
  have h:=Zld cx (V:=V) hs hsp (by omega) (by omega) (by omega) (by omega);have e:V.mem (base+0)=lk:=by rw[Int.add_zero];exact hV.fr.lk
  rw[e] at h;exact fin _ 1 _ h hw
 rw[if_neg c10] at hw;exact absurd hw id
end
end
