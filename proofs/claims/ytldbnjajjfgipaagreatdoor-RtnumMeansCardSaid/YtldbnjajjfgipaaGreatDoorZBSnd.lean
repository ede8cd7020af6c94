/- Parts. -/
import Derived.Test.YtldbnjajjfgipaaGreatDoorZBGo
set_option linter.all false
open Nat renaming le_refl->Yb,add_sub_cancel_left->Yat,add_assoc->Ybp
open List renaming length_append->Yd,getElem?_append_left->Yn,getElem?_append_right->Yo,append_nil->Ybe
open Int renaming le_refl->Y5
namespace Go.Proofs.YtldbnjajjfgipaaGreatDoor
open S Go.RowKit
section
theorem Z8j {h l:Nat}(hl:l<65536):(h*65536) ||| l=h*65536+l:=by
 have:=Nat.two_pow_add_eq_or_of_lt (i:=16) (b:=l) (by omega) h;have e:2^16*h=h*65536:=by omega
 rw[e] at this;exact this.symm
theorem Zuv {w:Int}(w0:0<=w)(w1:w<=4294967295):S.alu 8 (w/65536*65536) (w%65536)=w:=by
 show bits .or .u32 (w/65536*65536) (w%65536)=w
 rw[u32_or (by omega) (by omega) (by omega) (by omega)];have a:(w/65536*65536).toNat=(w/65536).toNat*65536:=by omega
 rw[a,Z8j (by omega)];omega
theorem Z4y {xs:List S.Item}{F:List Int}{base:Int}{i:Nat}{x:S.Item}(a:x.kind=4)(hf:F.getD i 0=1)(h:fit xs F base i x=true) :
 -1048576<=addr xs F base (stands xs x.label).toNat-addr xs F base (i+1)/\addr xs F base (stands xs x.label).toNat-addr xs F base (i+1)<=1048575:=by
 unfold fit at h;rw[if_neg (by rw[hf,a];decide),if_neg (λ q=>by rw[a] at q;exact absurd q.1 (by decide))] at h;exact of_decide_eq_true h
theorem Z4z {xs:List S.Item}{F:List Int}{base:Int}{i:Nat}{x:S.Item}(a:x.kind=3)(hf:F.getD i 0=2)(h:fit xs F base i x=true) :
 -1048576<=addr xs F base (stands xs x.label).toNat-addr xs F base (i+1)/\addr xs F base (stands xs x.label).toNat-addr xs F base (i+1)<=1048575:=by
 unfold fit at h;rw[if_neg (by rw[hf,a];decide),if_neg (by rw[hf,a];decide)] at h;exact of_decide_eq_true h
theorem Z40 {xs:List S.Item}{F:List Int}{base:Int}{i:Nat}{x:S.Item}(a:x.kind=3)(hf:F.getD i 0=1)(h:fit xs F base i x=true) :
 -32768<=addr xs F base (stands xs x.label).toNat-addr xs F base (i+1)/\addr xs F base (stands xs x.label).toNat-addr xs F base (i+1)<=32767:=by
 unfold fit at h;rw[if_neg (by rw[hf,a];decide),if_pos (by rw[hf,a];decide)] at h;exact of_decide_eq_true h
theorem Zlx {d n:Int}(hd:0<=d/\d<=31)(hn:-1048576<=n/\n<=1048575):good ⟨32,d,0,0,n⟩=true:=by
 have hf:form 32=5:=by decide
 have a:least 32=-1048576/\most 32=1048575:=by decide
 simp[good,hf,a.1,a.2,S.reg,hasD,hasA,hasB];omega
theorem Ziy {d a n:Int}(hd:0<=d/\d<=31)(ha:0<=a/\a<=31)(hn:-32768<=n/\n<=32767):good ⟨33,d,a,0,n⟩=true:=by
 have hf:form 33=2:=by decide
 have b:least 33=-32768/\most 33=32767:=by decide
 simp[good,hf,b.1,b.2,S.reg,hasD,hasA,hasB];omega
theorem Znq {d n:Int}(hd:0<=d/\d<=31)(hn:0<=n/\n<=65535):good ⟨23,d,0,0,n⟩=true:=by
 have hf:form 23=3:=by decide
 have a:least 23=0/\most 23=65535:=by decide
 simp[good,hf,a.1,a.2,S.reg,hasD,hasA,hasB];omega
theorem Znr {d a n:Int}(hd:0<=d/\d<=31)(ha:0<=a/\a<=31)(hn:0<=n/\n<=65535):good ⟨17,d,a,0,n⟩=true:=by
 have hf:form 17=2:=by decide
 have b:least 17=0/\most 17=65535:=by decide
 simp[good,hf,b.1,b.2,S.reg,hasD,hasA,hasB];omega
theorem Zp4 {op a b n:Int}(d:op=26\/op=27)(ha:0<=a/\a<=31)(hb:0<=b/\b<=31)(hn:-32768<=n/\n<=32767):good ⟨op,0,a,b,n⟩=true:=by
 rcases d with rfl|rfl
 .have hf:form 26=4:=by decide
  have c:least 26=-32768/\most 26=32767:=by decide
  simp[good,hf,c.1,c.2,S.reg,hasD,hasA,hasB];omega
 .have hf:form 27=4:=by decide
  have c:least 27=-32768/\most 27=32767:=by decide
  simp[good,hf,c.1,c.2,S.reg,hasD,hasA,hasB];omega
section
variable {I:S.Img}(hI:I.Ok)
include hI
theorem Zly {m:Mach}{V:S.Vw}{a:Int}(h:On I m V a){y:Inst}{v p:Int}(b:m.step={ (m.act y).1 with place:=(m.act y).2.1,steps:=m.steps+1 })
 (e:0<=y.d) (c:m.act y=(m.put 25 v,p,0)):On I m.step V p/\m.step.rd 25=v:=by
 refine⟨(Zir hI h (by decide) (by decide) b e c).ext (λ j _ _ h2=>?_) (λ _ _ _=>rfl) rfl rfl,?_⟩
 .show(if j=25 then v else V.reg j)=V.reg j
  rw[if_neg h2]
 .rw[b,c]
  have hr:=h.ok.regs
  show(m.reg.set 25 v).getD 25 0=v
  have:25<m.reg.length:=by omega
  simp[this]
variable {i:Nat}(h0:I.i0<=i)(h1:i<I.i1)
include h0 h1
theorem Zuw {m:Mach}{V:S.Vw}{j:Nat}{tq:Int}(hm:On I m V (I.adr i+j))(g:0<=tq)(b:tq<=4294967295)
 (r:(wordsAt I.xs I.F 0 i)[j]?=some (lui tq)) (d:(wordsAt I.xs I.F 0 i)[j+1]?=some (ori tq)) :
 On I (m.steps_ 2) V (I.adr i+(j+2:Nat))/\(m.steps_ 2).rd 25=tq:=by
 have c:good ⟨23,25,0,0,tq/65536⟩=true:=Znq (by decide) (by omega);have a:good ⟨17,25,25,0,tq%65536⟩=true:=Znr (by decide) (by decide) (by omega);have k:m.act ⟨23,25,0,0,tq/65536⟩=(m.put 25 (tq/65536*65536),S.u32m (m.place+1),0):=by
  have e:S.u32m (S.u32m (tq/65536)*65536)=tq/65536*65536:=by unfold S.u32m;omega
  unfold Mach.act;simp[e]
 obtain⟨t,q⟩:=Zz hI hm h0 h1 r rfl c (by rw[k]);obtain⟨f,r1⟩:=Zly hI hm t (show(0:Int)<=25 by decide) k;rw[q] at f;have h:m.step.act ⟨17,25,25,0,tq%65536⟩=(m.step.put 25 tq,S.u32m (m.step.place+1),0):=by
  have e:S.alu (like 17) (tq/65536*65536) (S.u32m (tq%65536))=tq:=by
   have p:S.u32m (tq%65536)=tq%65536:=by unfold S.u32m;omega
   rw[p];exact Zuv g b
  unfold Mach.act;simp only[r1,e];rw[if_neg (by decide),if_pos (by decide)]
 obtain⟨o,l⟩:=Zz hI f h0 h1 d (by omega) a (by rw[h]);obtain⟨k2,r2⟩:=Zly hI f o (show(0:Int)<=25 by decide) h;rw[l] at k2;have n:m.steps_ 2=m.step.step:=rfl;rw[n];refine⟨?_,r2⟩;have s:I.adr i+((j+1:Nat):Int)+1=I.adr i+((j+2:Nat):Int):=by omega
 rw[<- s];exact k2
theorem Zq9 {x:S.Item}(hx:I.xs[i]?=some x)(a:named x=true):toOf I.xs I.F 0 x=I.lab x.label/\0<=I.lab x.label/\I.lab x.label<=67108864:=by
 have e:toOf I.xs I.F 0 x=I.lab x.label:=by unfold toOf;rw[if_pos a];rfl
 have h:=Zuh (Zay hI) hI.words (Y5 0) (Znl hI) x;rw[e] at h;exact⟨e,h⟩
theorem Zlz {V:S.Vw}{o a b n:Int}{s:ByteArray}{w:Int}(h:I.xs[i]?=some ⟨4,⟨o,0,a,b,n⟩,s,w⟩):S.Go I V (I.adr i) 3 V (I.lab s):=λ m hm=>by
 obtain⟨v,l0,l1⟩:toOf I.xs I.F 0 _=I.lab s/\0<=I.lab s/\I.lab s<=67108864:=Zq9 hI h0 h1 h rfl;have d:=Z7 hI h;have u:=((Zay hI).2 i _ h).2.1 rfl;have g:=(Zg0 hI).2 i _ h;have hb:=Zlq hI (i:=i+1) (by have:=hI.i1l;omega);have t:=Zpq hI i;have k:wordsAt I.xs I.F 0 i=wordsOf ⟨4,⟨o,0,a,b,n⟩,s,w⟩ (I.F.getD i 0) (I.adr i) (I.lab s):=by
  unfold wordsAt;rw[h]
  show wordsOf _ _ _ (toOf I.xs I.F 0 _)=_
  rw[v];rfl
 rcases(show I.F.getD i 0=1\/I.F.getD i 0=2 by omega) with hf|hf
 .rw[hf] at k d
  have c:wordsAt I.xs I.F 0 i=[wordOf ⟨32,0,0,0,I.lab s-I.adr i-1⟩]:=k;have p:I.adr (i+1)=I.adr i+1:=d;have hr:-1048576<=I.lab s-I.adr (i+1)/\I.lab s-I.adr (i+1)<=1048575:=Z4y rfl hf g;have hg:good ⟨32,0,0,0,I.lab s-I.adr i-1⟩=true:=Zlx (by decide) (by omega);have f:m.act ⟨32,0,0,0,I.lab s-I.adr i-1⟩=(m,S.u32m (S.u32m (m.place+1)+S.u32m (I.lab s-I.adr i-1)),0):=by
   unfold Mach.act Mach.put;simp
  obtain⟨l,q⟩:=Zz hI hm h0 h1 (j:=0) (by rw[c];rfl) (by simp) hg (by rw[f]);have r:=Zed hI hm l (Y5 _) f;refine⟨1,by decide,?_⟩;have e:S.u32m (S.u32m (m.place+1)+S.u32m (I.lab s-I.adr i-1))=I.lab s:=by
   rw[q];unfold S.u32m;omega
  rw[e] at r;exact r
 .rw[hf] at k
  have c:wordsAt I.xs I.F 0 i=[lui (I.lab s),ori (I.lab s),wordOf ⟨33,0,25,0,0⟩]:=k;obtain⟨k2,r2⟩:=Zuw hI h0 h1 (j:=0) (tq:=I.lab s) (by simpa using hm) l0 (by omega) (by rw[c];rfl) (by rw[c];rfl);have f:(m.steps_ 2).act ⟨33,0,25,0,0⟩=(m.steps_ 2,I.lab s,0):=by
   have e:S.u32m (I.lab s+S.u32m 0)=I.lab s:=by unfold S.u32m;omega
   unfold Mach.act Mach.put;simp only[r2,e];simp
  obtain⟨l,q⟩:=Zz hI k2 h0 h1 (j:=2) (by rw[c];rfl) rfl (Ziy (by decide) (by decide) (by decide)) (by rw[f]);exact⟨3,Yb _,Zed hI k2 l (Y5 _) f⟩
theorem Zra {V:S.Vw}{o d a b n:Int}{s:ByteArray}{w:Int}(q:I.xs[i]?=some ⟨4,⟨o,d,a,b,n⟩,s,w⟩)(x:0<d)(k:d<=31):S.Go I V (I.adr i) 3 (V.set d (I.adr (i+1))) (I.lab s):=λ m hm=>by
 obtain⟨A,l0,l1⟩:toOf I.xs I.F 0 _=I.lab s/\0<=I.lab s/\I.lab s<=67108864:=Zq9 hI h0 h1 q rfl;have g:=Z7 hI q;have z:=((Zay hI).2 i _ q).2.1 rfl;have l:=(Zg0 hI).2 i _ q;have hb:=Zlq hI (i:=i+1) (by have:=hI.i1l;omega);have y:=Zpq hI i;have t:wordsAt I.xs I.F 0 i=wordsOf ⟨4,⟨o,d,a,b,n⟩,s,w⟩ (I.F.getD i 0) (I.adr i) (I.lab s):=by
  unfold wordsAt;rw[q]
  show wordsOf _ _ _ (toOf I.xs I.F 0 _)=_
  rw[A];rfl
 rcases(show I.F.getD i 0=1\/I.F.getD i 0=2 by omega) with hf|hf
 .rw[hf] at t g
  have f:wordsAt I.xs I.F 0 i=[wordOf ⟨32,d,0,0,I.lab s-I.adr i-1⟩]:=t;have c:I.adr (i+1)=I.adr i+1:=g;have hr:-1048576<=I.lab s-I.adr (i+1)/\I.lab s-I.adr (i+1)<=1048575:=Z4y rfl hf l;have hg:good ⟨32,d,0,0,I.lab s-I.adr i-1⟩=true:=Zlx (by omega) (by omega);have h:m.act ⟨32,d,0,0,I.lab s-I.adr i-1⟩=(m.put d (S.u32m (m.place+1)),S.u32m (S.u32m (m.place+1)+S.u32m (I.lab s-I.adr i-1)),0):=by
   unfold Mach.act;simp
  obtain⟨v,r⟩:=Zz hI hm h0 h1 (j:=0) (by rw[f];rfl) (by simp) hg (by rw[h]);have p:=Zir hI hm x k v (by show 0<=d;omega) h;refine⟨1,by decide,?_⟩;have e:S.u32m (S.u32m (m.place+1)+S.u32m (I.lab s-I.adr i-1))=I.lab s:=by
   rw[r];unfold S.u32m;omega
  have u:S.u32m (m.place+1)=I.adr (i+1):=by rw[r,c];simp
  rw[e,u] at p;exact p
 .rw[hf] at t g
  have f:wordsAt I.xs I.F 0 i=[lui (I.lab s),ori (I.lab s),wordOf ⟨33,d,25,0,0⟩]:=t;have c:I.adr (i+1)=I.adr i+3:=g;obtain⟨k2,r2⟩:=Zuw hI h0 h1 (j:=0) (tq:=I.lab s) (by simpa using hm) l0 (by omega) (by rw[f];rfl) (by rw[f];rfl);have h:(m.steps_ 2).act ⟨33,d,25,0,0⟩=((m.steps_ 2).put d (S.u32m ((m.steps_ 2).place+1)),I.lab s,0):=by
   have e:S.u32m (I.lab s+S.u32m 0)=I.lab s:=by unfold S.u32m;omega
   unfold Mach.act;simp only[r2,e];simp
  obtain⟨v,r⟩:=Zz hI k2 h0 h1 (j:=2) (by rw[f];rfl) rfl (Ziy (by omega) (by decide) (by decide)) (by rw[h]);have p:=Zir hI k2 x k v (by show 0<=d;omega) h;have u:S.u32m ((m.steps_ 2).place+1)=I.adr (i+1):=by rw[r,c];omega
  rw[u] at p;exact⟨3,Yb _,p⟩
theorem Z2l {V:S.Vw}{o d a b n:Int}{s:ByteArray}(q:I.xs[i]?=some ⟨5,⟨o,d,a,b,n⟩,s,0⟩)(r:0<d)(c:d<=31)(h:d≠25):S.Go I V (I.adr i) 2 (V.set d (I.lab s)) (I.adr (i+1)):=λ m hm=>by
 obtain⟨B,l0,l1⟩:toOf I.xs I.F 0 _=I.lab s/\0<=I.lab s/\I.lab s<=67108864:=Zq9 hI h0 h1 q rfl;have l:I.adr (i+1)=I.adr i+2:=Z7 hI q;have f:wordsAt I.xs I.F 0 i=[wordOf ⟨23,d,0,0,I.lab s/65536⟩,wordOf ⟨17,d,d,0,I.lab s%65536⟩]:=by
  unfold wordsAt;rw[q]
  show wordsOf _ _ _ (toOf I.xs I.F 0 _)=_
  rw[B]
  show [wordOf ⟨23,d,0,0,(I.lab s+0)%4294967296/65536⟩,wordOf ⟨17,d,d,0,(I.lab s+0)%4294967296%65536⟩]=_
  have e:(I.lab s+0)%4294967296=I.lab s:=by omega
  rw[e]
 have p:good ⟨23,d,0,0,I.lab s/65536⟩=true:=Znq (by omega) (by omega);have k:good ⟨17,d,d,0,I.lab s%65536⟩=true:=Znr (by omega) (by omega) (by omega);have u:m.act ⟨23,d,0,0,I.lab s/65536⟩=(m.put d (I.lab s/65536*65536),S.u32m (m.place+1),0):=by
  have e:S.u32m (S.u32m (I.lab s/65536)*65536)=I.lab s/65536*65536:=by unfold S.u32m;omega
  unfold Mach.act;simp[e]
 obtain⟨A,y⟩:=Zz hI hm h0 h1 (j:=0) (by rw[f];rfl) (by simp) p (by rw[u]);have g:=Zir hI hm r c A (by show 0<=d;omega) u;rw[y] at g;have r1:m.step.rd d=I.lab s/65536*65536:=by
  rw[g.reg d (by omega) c h]
  show(if d=d then _ else _)=_
  rw[if_pos rfl]
 have t:m.step.act ⟨17,d,d,0,I.lab s%65536⟩=(m.step.put d (I.lab s),S.u32m (m.step.place+1),0):=by
  have e:S.alu (like 17) (I.lab s/65536*65536) (S.u32m (I.lab s%65536))=I.lab s:=by
   have x:S.u32m (I.lab s%65536)=I.lab s%65536:=by unfold S.u32m;omega
   rw[x];exact Zuv l0 (by omega)
  unfold Mach.act;simp only[r1,e];rw[if_neg (by decide),if_pos (by decide)]
 obtain⟨w,v⟩:=Zz hI g h0 h1 (j:=1) (by rw[f];rfl) (by omega) k (by rw[t]);have k2:=Zir hI g r c w (by show 0<=d;omega) t;refine⟨2,Yb _,?_⟩;have z:S.u32m (m.step.place+1)=I.adr (i+1):=by rw[v,l];omega
 rw[z] at k2;refine k2.ext (λ j _ _ _=>?_) (λ _ _ _=>rfl) rfl rfl
 show(if j=d then _ else if j=d then _ else _)=if j=d then _ else _
 split <;> rfl
theorem Zns {V:S.Vw}{d a n:Int}{s:ByteArray}{w:Int}(y:I.xs[i]?=some ⟨3,⟨26,d,a,0,n⟩,s,w⟩)(q:0<=a/\a<=31/\a≠25) :
 S.Go I V (I.adr i) 4 V (if V.reg a=0 then I.lab s else I.adr (i+1)):=λ m hm=>by
 obtain⟨M,l0,l1⟩:toOf I.xs I.F 0 _=I.lab s/\0<=I.lab s/\I.lab s<=67108864:=Zq9 hI h0 h1 y rfl;have l:=Z7 hI y;have K:=((Zay hI).2 i _ y).1 rfl;have r:=(Zg0 hI).2 i _ y;have hb:=Zlq hI (i:=i+1) (by have:=hI.i1l;omega);have H:=Zpq hI i;have B:=hm.reg a q.1 q.2.1 q.2.2;have A:m.rd 0=0:=hm.ok.zero;have v:wordsAt I.xs I.F 0 i=wordsOf ⟨3,⟨26,d,a,0,n⟩,s,w⟩ (I.F.getD i 0) (I.adr i) (I.lab s):=by
  unfold wordsAt;rw[y]
  show wordsOf _ _ _ (toOf I.xs I.F 0 _)=_
  rw[M];rfl
 have u:∀o:Mach,o.rd a=V.reg a->o.rd 0=0->∀k:Int,(o.act ⟨26,0,a,0,k⟩=(o,if V.reg a=0 then S.u32m (S.u32m (o.place+1)+S.u32m k) else S.u32m (o.place+1),0)) /\
  (o.act ⟨27,0,a,0,k⟩=(o,if V.reg a=0 then S.u32m (o.place+1) else S.u32m (S.u32m (o.place+1)+S.u32m k),0)):=by
  intro o r1 D k
  constructor
  .unfold Mach.act goes
   simp only[r1,D];by_cases c:V.reg a=0 <;> simp[c]
  .unfold Mach.act goes
   simp only[r1,D];by_cases c:V.reg a=0 <;> simp[c]
 rcases(show I.F.getD i 0=1\/I.F.getD i 0=2\/I.F.getD i 0=3 by omega) with hf|hf|hf
 .rw[hf] at v l
  have b:wordsAt I.xs I.F 0 i=[wordOf ⟨26,0,a,0,I.lab s-I.adr i-1⟩]:=v;have f:I.adr (i+1)=I.adr i+1:=l;have J:-32768<=I.lab s-I.adr (i+1)/\I.lab s-I.adr (i+1)<=32767:=Z40 rfl hf r;have g:=(u m B A (I.lab s-I.adr i-1)).1;obtain⟨x,t⟩:=Zz hI hm h0 h1 (j:=0) (by rw[b];rfl) (by simp) (Zp4 (.inl rfl) ⟨q.1,q.2.1⟩ (by decide) (by omega)) (by rw[g]);have h:=Zed hI hm x (Y5 _) g;refine⟨1,by decide,?_⟩;have e:(if V.reg a=0 then S.u32m (S.u32m (m.place+1)+S.u32m (I.lab s-I.adr i-1)) else S.u32m (m.place+1))=if V.reg a=0 then I.lab s else I.adr (i+1):=by
   split
   .rw[t];unfold S.u32m;omega
   .rw[t,f];simp
  rw[e] at h;exact h
 .rw[hf] at v l
  have b:wordsAt I.xs I.F 0 i=[wordOf ⟨27,0,a,0,1⟩,wordOf ⟨32,0,0,0,I.lab s-I.adr i-2⟩]:=v;have f:I.adr (i+1)=I.adr i+2:=l;have J:-1048576<=I.lab s-I.adr (i+1)/\I.lab s-I.adr (i+1)<=1048575:=Z4z rfl hf r;have g:=(u m B A 1).2;obtain⟨x,t⟩:=Zz hI hm h0 h1 (j:=0) (by rw[b];rfl) (by simp) (Zp4 (.inr rfl) ⟨q.1,q.2.1⟩ (by decide) (by omega)) (by rw[g]);have h:=Zed hI hm x (Y5 _) g;by_cases c:V.reg a=0
  .rw[if_pos c] at h⊢
   rw[t] at h;have p:m.step.act ⟨32,0,0,0,I.lab s-I.adr i-2⟩=(m.step,S.u32m (S.u32m (m.step.place+1)+S.u32m (I.lab s-I.adr i-2)),0):=by
    unfold Mach.act Mach.put;simp
   obtain⟨z,C⟩:=Zz hI h h0 h1 (j:=1) (by rw[b];rfl) (by simp) (Zlx (by decide) (by omega)) (by rw[p]);have k2:=Zed hI h z (Y5 _) p;refine⟨2,by decide,?_⟩;have e:S.u32m (S.u32m (m.step.place+1)+S.u32m (I.lab s-I.adr i-2))=I.lab s:=by
    rw[C];unfold S.u32m;omega
   rw[e] at k2;exact k2
  .rw[if_neg c] at h⊢
   refine⟨1,by decide,?_⟩;have e:S.u32m (S.u32m (m.place+1)+S.u32m 1)=I.adr (i+1):=by
    rw[t,f];unfold S.u32m;omega
   rw[e] at h;exact h
 .rw[hf] at v l
  have b:wordsAt I.xs I.F 0 i=[wordOf ⟨27,0,a,0,3⟩,lui (I.lab s),ori (I.lab s),wordOf ⟨33,0,25,0,0⟩]:=v;have f:I.adr (i+1)=I.adr i+4:=l;have g:=(u m B A 3).2;obtain⟨x,t⟩:=Zz hI hm h0 h1 (j:=0) (by rw[b];rfl) (by simp) (Zp4 (.inr rfl) ⟨q.1,q.2.1⟩ (by decide) (by omega)) (by rw[g]);have h:=Zed hI hm x (Y5 _) g;by_cases c:V.reg a=0
  .rw[if_pos c] at h⊢
   rw[t] at h;obtain⟨k2,r2⟩:=Zuw hI h0 h1 (m:=m.step) (j:=1) (tq:=I.lab s) (by simpa using h) l0 (by omega) (by rw[b];rfl) (by rw[b];rfl);have p:(m.step.steps_ 2).act ⟨33,0,25,0,0⟩=(m.step.steps_ 2,I.lab s,0):=by
    have e:S.u32m (I.lab s+S.u32m 0)=I.lab s:=by unfold S.u32m;omega
    unfold Mach.act Mach.put;simp only[r2,e];simp
   obtain⟨z,C⟩:=Zz hI k2 h0 h1 (j:=3) (by rw[b];rfl) rfl (Ziy (by decide) (by decide) (by decide)) (by rw[p]);have E:=Zed hI k2 z (Y5 _) p;refine⟨4,Yb _,?_⟩;have G:m.steps_ 4=(m.step.steps_ 2).step:=by
    show m.steps_ (1+3)=_
    rw[Za6];rfl
   rw[G];exact E
  .rw[if_neg c] at h⊢
   refine⟨1,by decide,?_⟩;have e:S.u32m (S.u32m (m.place+1)+S.u32m 3)=I.adr (i+1):=by
    rw[t,f];unfold S.u32m;omega
   rw[e] at h;exact h
end
end
namespace S
structure Obj where
 name:ByteArray
 items:List Item
def ownB (s:ByteArray):Bool:=s.data.toList.head?==some 46
def owned (n s:ByteArray):ByteArray:=if ownB s=true then n++s else s
def ownItem (n:ByteArray)(x:Item):Item:=⟨x.kind,x.inst,owned n x.label,x.word⟩
def itemsOf (o:Obj):List Item:=o.items.map (ownItem o.name)
def joined (os:List Obj):List Item:=os.flatMap itemsOf
def DupN (os:List Obj):Prop:=∃i j:Nat,∃a b:Obj,j<i/\os[i]?=some a/\os[j]?=some b/\a.name=b.name
def badN (o:Obj):Bool:=o.name.data.toList.isEmpty || ownB o.name
def NamesRes (os:List Obj)(r:Int):Prop:=(DupN os/\r=14)\/(¬DupN os/\(∃o∈os,badN o=true)/\r=2)\/(¬DupN os/\(∀o∈os,badN o=false)/\r=0)
def findP:List (ByteArray×Int)->ByteArray->Option Int
 | [],_=>none
 | p::r,s=>if p.1=s then some p.2 else findP r s
end S
theorem Znt {os:List S.Obj}{r t:Int}(h:S.NamesRes os r)(k:S.NamesRes os t):r=t:=by
 rcases h with⟨h1,rfl⟩|⟨h1,⟨o,b,a⟩,rfl⟩|⟨h1,h2,rfl⟩
 .rcases k with⟨k1,rfl⟩|⟨k1,_⟩|⟨k1,_⟩
  .rfl
  .exact absurd h1 k1
  .exact absurd h1 k1
 .rcases k with⟨k1,rfl⟩|⟨k1,_,rfl⟩|⟨k1,k2,rfl⟩
  .exact absurd k1 h1
  .rfl
  .rw[k2 o b] at a;cases a
 .rcases k with⟨k1,rfl⟩|⟨k1,⟨o,b,a⟩,rfl⟩|⟨k1,k2,rfl⟩
  .exact absurd k1 h1
  .rw[h2 o b] at a;cases a
  .rfl
theorem Zsr (n s:ByteArray):(S.owned n s).size<=n.size+s.size:=by
 unfold S.owned
 split
 .simp[ByteArray.size_append]
 .omega
namespace S
inductive BO where
 | ret (st:Vw)
 | halt (code:Int) (st:Vw)
 | left (tq:Int) (st:Vw)
structure Mt (I:Img)(V st:Vw):Prop where
 vis:∀n,visB n=true->V.reg n=st.reg n
 mem:∀a,0<=a->a<I.size->¬I.stk a->V.mem a=st.mem a
 inp:V.inp=st.inp
 out:V.out=st.out
structure Fr (V:Vw)(base lk:Int)(env ts:List Int):Prop where
 lk:V.mem base=lk
 env:∀k,k<env.length->V.mem (base+1+k)=env.getD k 0
 ts:∀k,k<ts.length->V.reg (11+k)=ts.getD k 0
def Kp (I:Img)(base:Int)(V V':Vw):Prop:=∀a,I.lo<=a->a<base->V'.mem a=V.mem a
def backTo (behind:Bool)(V:Vw)(ret:Int):Int:=if behind=true then u32m (u32m (ret+V.mem ret)+1) else ret
def Done (I:Img)(V:Vw)(a:Int)(k:Nat)(top ret:Int)(behind:Bool):BO->Prop
 | .ret st=>∃V',Go I V a k V' (backTo behind V' ret)/\Mt I V' st/\V'.reg 28=top/\Kp I top V V'
 | .halt code st=>∃V',GoH I V a k V' code/\Mt I V' st
 | .left tq st=>∃V',Go I V a k V' tq/\Mt I V' st/\V'.reg 28=top/\Kp I top V V'
def Real (I:Img)(name:ByteArray)(behind:Bool)(st:Vw)(d:Int)(R:Int->BO->Nat->Prop):Prop :=
 ∀V top ret,Mt I V st->V.reg 28=top->V.reg 31=ret->0<=ret->ret<I.size->I.lo<=top->top+d<=I.hi->∃o k,R ret o k/\Done I V (I.lab name) k top ret behind o
def Vw.args (st:Vw)(vs:List Int):Vw:={ st with reg:=λ j=>if 4<=j/\j<4+vs.length then vs.getD (j-4).toNat 0 else st.reg j }
def Vw.regs (st:Vw):List Int->List Int->Vw
 | n::r,v::vs=>(st.set n v).regs r vs
 | _,_=>st
def wpOp (I:Img)(dep lk:Int)(op n:Int)(name:ByteArray)(at_:Nat)(env vs:List Int)(st:Vw)(c:Nat)(Q:Int->Vw->Nat->Prop)(H:Int->Vw->Nat->Prop):Prop :=
 if op=1 then Q (n%4294967296) st (c+2)
 else if op=2 then Q (env.getD n.toNat 0) st (c+1)
 else if op=3 then Q (st.reg n) st (c+1)
 else if op=4 then(vs.getD 1 0=0->n≠5/\n≠6)/\Q (alu n (vs.getD 0 0) (vs.getD 1 0)) st (c+1)
 else if op=5 then u32m (vs.getD 0 0+n)<I.size/\¬I.stk (u32m (vs.getD 0 0+n))/\Q (st.mem (u32m (vs.getD 0 0+n))) st (c+1)
 else if op=6 then ∃d R,Real I name false (st.args vs) d R/\d<=dep/\∀ret o k,R ret o k->(match o with
  | .ret st2=>Q (st2.reg 4) st2 (c+2*at_+vs.length+4+k)
  | .halt code st2=>H code st2 (c+2*at_+vs.length+4+k)
  | .left _ _=>False)
 else if op=7 then Q (if vs.getD 0 0=vs.getD 1 0 then 1 else 0) st (c+3)
 else if op=8 then Q (inByte st.inp) { st with inp:=st.inp.tail } (c+1)
 else if op=9 then Q (I.lab name) st (c+2)
 else if op=10 then Q lk st (c+1)
 else False
mutual
def wpE (I:Img)(dep lk:Int)(env:List Int):BE->Nat->Vw->Nat->(Int->Vw->Nat->Prop)->(Int->Vw->Nat->Prop)->Prop
 | .mk op n name kids,at_,st,c,Q,H=>wpEs I dep lk env kids at_ st c (λ vs st1 c1=>wpOp I dep lk op n name at_ env vs st1 c1 Q H) H
def wpEs (I:Img)(dep lk:Int)(env:List Int):List BE->Nat->Vw->Nat->(List Int->Vw->Nat->Prop)->(Int->Vw->Nat->Prop)->Prop
 | [],_,st,c,Q,_=>Q [] st c
 | e::r,at_,st,c,Q,H=>wpE I dep lk env e at_ st c (λ v st1 c1=>wpEs I dep lk env r (at_+1) st1 c1 (λ vs st2 c2=>Q (v::vs) st2 c2) H) H
end
mutual
def wpS (I:Img)(dep lk:Int)(behind:Bool):BS->List Int->Vw->Nat->(List Int->Vw->Nat->Prop)->(BO->Nat->Prop)->Prop
 | .mk op n name exprs regs body els,env,st,c,Q,R =>
  if op=4 then
   ∃J:List Int->Vw->Nat->Nat->Prop,(∃k,J env st c k)/\∀env st c k,J env st c k ->
    wpEs I dep lk env exprs 0 st c (λ vs st1 c1=>if vs.getD 0 0=0 then Q env st1 (c1+4) else
     wpSs I dep lk behind body env st1 (c1+4) (λ Zkd st2 c2=>∃k2,k2<k/\J Zkd st2 (c2+3) k2) R) (λ code st c=>R (.halt code st) c)
  else
   wpEs I dep lk env exprs 0 st c (λ vs st1 c1 =>
    if op=1 then Q (env.set n.toNat (vs.getD 0 0)) st1 (c1+1)
    else if op=2 then u32m (vs.getD 0 0+n)<I.size/\¬I.stk (u32m (vs.getD 0 0+n))/\¬I.code (u32m (vs.getD 0 0+n))/\Q env (st1.sto (u32m (vs.getD 0 0+n)) (vs.getD 1 0)) (c1+1)
    else if op=3 then(if vs.getD 0 0=0 then wpSs I dep lk behind els env st1 (c1+4) Q R else wpSs I dep lk behind body env st1 (c1+4) (λ Zkd st2 c2=>Q Zkd st2 (c2+3)) R)
    else if op=5 then R (.ret (st1.regs regs vs)) (c1+regs.length+(if behind=true then 5 else 3))
    else if op=6 then Q env st1 c1
    else if op=7 then Q env { st1 with out:=st1.out++[vs.getD 0 0%256] } (c1+1)
    else if op=8 then R (.halt (vs.getD 0 0) st1) (c1+1)
    else if op=9 then Q env (st1.set n (vs.getD 0 0)) (c1+1)
    else if op=10 then R (.left (I.lab name) st1) (c1+4)
    else if op=11 then R (.left (vs.getD 0 0) st1) (c1+2)
    else False) (λ code st c=>R (.halt code st) c)
def wpSs (I:Img)(dep lk:Int)(behind:Bool):List BS->List Int->Vw->Nat->(List Int->Vw->Nat->Prop)->(BO->Nat->Prop)->Prop
 | [],env,st,c,Q,_=>Q env st c
 | s::r,env,st,c,Q,R=>wpS I dep lk behind s env st c (λ Z1a st1 c1=>wpSs I dep lk behind r Z1a st1 c1 Q R) R
end
structure Seg (I:Img)(obj:ByteArray)(i:Nat)(ys:List Item):Prop where
 at_:∀k x,ys[k]?=some x->I.xs[i+k]?=some (ownItem obj x)
 lo:I.i0<=i
 hi:i+ys.length<=I.i1
end S
theorem S.Seg.left {I:S.Img}{obj:ByteArray}{i:Nat}{ys b:List S.Item}(h:S.Seg I obj i (ys++b)):S.Seg I obj i ys :=
 ⟨λ k x a=>h.at_ k x (by rw[Yn (List.getElem?_eq_some_iff.1 a).1];exact a),h.lo,by have:=h.hi;rw[Yd] at this;omega⟩
theorem S.Seg.right {I:S.Img}{obj:ByteArray}{i:Nat}{ys a:List S.Item}(h:S.Seg I obj i (ys++a)):S.Seg I obj (i+ys.length) a :=
 ⟨λ k x b=>by
  have:=h.at_ (ys.length+k) x (by rw[Yo (by omega),Yat];exact b);rw[<- Ybp] at this;exact this,by have:=h.lo;omega,by have:=h.hi;rw[Yd] at this;omega⟩
theorem S.Seg.head {I:S.Img}{obj:ByteArray}{i:Nat}{y:S.Item}{ys:List S.Item}(h:S.Seg I obj i (y::ys)):I.xs[i]?=some (S.ownItem obj y):=h.at_ 0 y rfl
theorem S.Seg.tail {I:S.Img}{obj:ByteArray}{i:Nat}{y:S.Item}{ys:List S.Item}(h:S.Seg I obj i (y::ys)):S.Seg I obj (i+1) ys:=S.Seg.right (ys:=[y]) h
theorem S.Seg.lt {I:S.Img}{obj:ByteArray}{i:Nat}{y:S.Item}{ys:List S.Item}(h:S.Seg I obj i (y::ys)):i<I.i1:=by have:=h.hi;simp at this;omega
theorem Zey (obj:ByteArray){s:ByteArray}(h:labB s=true):S.owned obj s=s:=by
 unfold S.owned;rw[if_neg];intro h2;unfold labB dotted at h;unfold S.ownB at h2;rw[h2] at h;simp at h
theorem S.Mt.refl_ {I:S.Img}(V:S.Vw):S.Mt I V V:=⟨λ _ _=>rfl,λ _ _ _ _=>rfl,rfl,rfl⟩
theorem S.Kp.refl (I:S.Img)(base:Int)(V:S.Vw):S.Kp I base V V:=λ _ _ _=>rfl
theorem S.Kp.trans {I:S.Img}{base:Int}{V V' b:S.Vw}(h:S.Kp I base V V')(h2:S.Kp I base V' b):S.Kp I base V b:=λ a h0 h1=>(h2 a h0 h1).trans (h a h0 h1)
theorem Zkw {n:Int}(h:S.visB n=true):n≠25/\n≠28/\n≠31/\n≠0/\(n<=10\/26<=n)/\1<=n/\n<=30:=by
 unfold S.visB at h;rw[decide_eq_true_eq] at h;omega
section
namespace S
structure Fm (I:Img)(V st:Vw)(base lk:Int)(env ts:List Int):Prop where
 mt:Mt I V st
 sp:V.reg 28=base+env.length+15
 fr:Fr V base lk env ts
structure Cx (I:Img)(L dep lk base:Int):Prop where
 ok:I.Ok
 lo:I.lo<=base
 top:base+L+15+dep<=I.hi
 dep0:0<=dep
 L0:0<=L
 L1:L<=200
 lk0:0<=lk
 lk1:lk<I.size
def OutE (I:Img)(V:Vw)(a b:Int)(c:Nat)(base lk:Int)(env ts:List Int)(Q:List Int->Vw->Nat->Prop)(H:Int->Vw->Nat->Prop):Prop :=
 (∃vs st' c' V',c<=c'/\Q vs st' c'/\Go I V a (c'-c) V' b/\Fm I V' st' base lk env (ts++vs)/\Kp I base V V') \/
 (∃code st' c' V',c<=c'/\H code st' c'/\GoH I V a (c'-c) V' code/\Mt I V' st')
end S
theorem Zj (V:S.Vw)(d v:Int):(V.set d v).reg d=v:=by show(if d=d then v else _)=v;rw[if_pos rfl]
theorem Zh (V:S.Vw){d j:Int}(v:Int)(h:j≠d):(V.set d v).reg j=V.reg j:=by show(if j=d then v else _)=_;rw[if_neg h]
theorem Zeh (V:S.Vw)(d v:Int):(V.sto d v).mem d=v:=by show(if d=d then v else _)=v;rw[if_pos rfl]
theorem Zaa (V:S.Vw){d j:Int}(v:Int)(h:j≠d):(V.sto d v).mem j=V.mem j:=by show(if j=d then v else _)=_;rw[if_neg h]
theorem S.Mt.hid {I:S.Img}{V st:S.Vw}(h:S.Mt I V st){d:Int}(b:S.visB d=false)(v:Int):S.Mt I (V.set d v) st :=
 ⟨λ n a=>by
  rw[Zh _ _ (λ e=>by subst e;rw[b] at a;cases a)];exact h.vis n a,h.mem,h.inp,h.out⟩
theorem S.Mt.stack {I:S.Img}{V st:S.Vw}(h:S.Mt I V st){p:Int}(hp:I.stk p)(v:Int):S.Mt I (V.sto p v) st :=
 ⟨h.vis,λ a a0 c b=>by
  rw[Zaa _ _ (λ e:a=p=>b (by rw[e];exact hp))];exact h.mem a a0 c b,h.inp,h.out⟩
theorem Z09 {k:Nat}(h:k<14):S.visB (11+k)=false:=by
 unfold S.visB;rw[decide_eq_false_iff_not];omega
theorem Ziz (ts:List Int)(v:Int)(k:Nat)(h:k<(ts++[v]).length):(ts++[v]).getD k 0=if k=ts.length then v else ts.getD k 0:=by
 by_cases c:k=ts.length
 .subst c;simp
 .rw[if_neg c]
  have:k<ts.length:=by simp at h;omega
  simp[Yn this]
theorem Zd1 (ts vs:List Int)(k:Nat)(h:k<ts.length):(ts++vs).getD k 0=ts.getD k 0:=by
 simp[Yn h]
theorem Zg1 (ts vs:List Int)(k:Nat):(ts++vs).getD (ts.length+k) 0=vs.getD k 0:=by
 simp[Yo]
theorem S.Fm.put {I:S.Img}{V st:S.Vw}{base lk:Int}{env ts vs:List Int}(h:S.Fm I V st base lk env (ts++vs))(d:ts.length<14)(v:Int):S.Fm I (V.set (11+ts.length) v) st base lk env (ts++[v]):=by
 refine⟨h.mt.hid (Z09 d) v,by rw[Zh _ _ (by omega)];exact h.sp,h.fr.lk,h.fr.env,λ k b=>?_⟩;rw[Ziz ts v k b];by_cases c:k=ts.length
 .subst c;rw[if_pos rfl,Zj]
 .rw[if_neg c,Zh _ _ (by omega)]
  have a:k<ts.length:=by simp at b;omega
  rw[h.fr.ts k (by simp;omega),Zd1 ts vs k a]
theorem S.Fm.over {I:S.Img}{V st:S.Vw}{base lk:Int}{env ts:List Int}(h:S.Fm I V st base lk env ts){k:Nat}(c:k<14)(b:ts.length<=k)(v:Int):S.Fm I (V.set (11+k) v) st base lk env ts :=
 ⟨h.mt.hid (Z09 c) v,by rw[Zh _ _ (by omega)];exact h.sp,⟨h.fr.lk,h.fr.env,λ j a=>by rw[Zh _ _ (by omega)];exact h.fr.ts j a⟩⟩
theorem S.Fm.val {I:S.Img}{V st:S.Vw}{base lk:Int}{env ts vs:List Int}(h:S.Fm I V st base lk env (ts++vs)){k:Nat}(hk:k<vs.length):V.reg (11+ts.length+k)=vs.getD k 0:=by
 have:=h.fr.ts (ts.length+k) (by simp;omega);rw[Zg1] at this;rw[<- this]
 congr 1
 omega
theorem Zbr (fr L:Int):(∀k,(bStores fr L k).length=k)/\(∀k,(bLoads fr L k).length=k)/\(∀a k,(bArgs a k).length=k):=by
 refine⟨λ k=>?_,λ k=>?_,λ a k=>?_⟩
 all_goals
  induction k with
  | zero=>rfl
  | succ k ih=>first | (rw[bStores,Yd,ih];rfl) | (rw[bLoads,Yd,ih];rfl) | (rw[bArgs,Yd,ih];rfl)
section
variable {I:S.Img}{L dep lk base:Int}(cx:S.Cx I L dep lk base){obj:ByteArray}
include cx
theorem Zrb {V:S.Vw}{p:Int}(a:V.reg 28=base+L+15)(h0:0<=p)(h1:p<L+15):S.u32m (V.reg 28+(p-(L+15)))=base+p/\base+p<I.size/\¬I.code (base+p)/\I.stk (base+p):=by
 obtain⟨ok,lo,top,dep0,_,_,_,_⟩:=cx;have h2:=ok.lo0;have h3:=ok.hisz;have h4:=ok.size2;refine⟨?_,by omega,?_,by omega,by omega⟩
 .rw[a];unfold S.u32m;omega
 .rintro⟨q0,q1⟩
  rcases ok.apart with h|h <;> omega
theorem Zl0 {V:S.Vw}{i:Nat}{d p:Int}{r:List S.Item}(c:S.Seg I obj i (bLoad (L+15) d p::r))(a:V.reg 28=base+L+15)(h0:0<=p)(h1:p<L+15)(e:0<d)(b:d<=31) :
 S.Go I V (I.adr i) 1 (V.set d (V.mem (base+p))) (I.adr (i+1)):=by
 obtain⟨f,g,e3,e4⟩:=Zrb cx (V:=V) a h0 h1;exact Z2g cx.ok c.lo c.lt c.head e b (by decide) f.symm g
theorem Znu {V:S.Vw}{i:Nat}{b p:Int}{r:List S.Item}(c:S.Seg I obj i (bStore (L+15) b p::r))(a:V.reg 28=base+L+15)(h0:0<=p)(h1:p<L+15)(d:0<=b/\b<=31/\b≠25) :
 S.Go I V (I.adr i) 1 (V.sto (base+p) (V.reg b)) (I.adr (i+1)):=by
 obtain⟨f,g,e,e4⟩:=Zrb cx (V:=V) a h0 h1;exact Zun cx.ok c.lo c.lt c.head (by decide) d f.symm g e
theorem Zf3 {V:S.Vw}{i:Nat}{d a:Int}{r:List S.Item}(c:S.Seg I obj i (bMove d a::r))(e:0<d)(b:d<=31)(f:0<=a/\a<=31/\a≠25):S.Go I V (I.adr i) 1 (V.set d (V.reg a)) (I.adr (i+1)) :=
 Z2f cx.ok c.lo c.lt c.head e b f
theorem Znv {V:S.Vw}{i:Nat}(d:V.reg 28=base+L+15):∀k:Nat,k<=14->S.Seg I obj i (bStores (L+15) L k)->∃V',S.Go I V (I.adr i) k V' (I.adr (i+k))/\V'.reg=V.reg/\(∀j:Nat,j<k->V'.mem (base+1+L+j)=V.reg (11+j)) /\
 (∀a:Int,a<base+1+L\/base+L+15<=a->V'.mem a=V.mem a)/\V'.inp=V.inp/\V'.out=V.out
 | 0,_,_=>⟨V,Zdl _ _ _,rfl,λ j n=>by omega,λ _ _=>rfl,rfl,rfl⟩
 | k+1,hk,hs=>by
  obtain⟨m,h1,h2,h3,h,o,f⟩:=Znv d k (by omega) hs.left;have b:=hs.right;rw[(Zbr _ _).1] at b;have hL:=cx.L0;have l:=Znu cx (V:=m) b (by rw[h2];exact d) (p:=1+L+k) (by omega) (by omega) (by omega);refine⟨_,h1.trans l,h2,λ j n=>?_,λ a g=>?_,o,f⟩
  .by_cases c:j=k
   .subst c
    have e:base+1+L+(j:Int)=base+(1+L+j):=by omega
    rw[e,Zeh,h2]
   .rw[Zaa _ _ (by omega)];exact h3 j (by omega)
  .rw[Zaa _ _ (by omega)];exact h a g
theorem Zrc {V:S.Vw}{i:Nat}(d:V.reg 28=base+L+15):∀k:Nat,k<=14->S.Seg I obj i (bLoads (L+15) L k)->∃V',S.Go I V (I.adr i) k V' (I.adr (i+k))/\V'.mem=V.mem/\(∀j:Nat,j<k->V'.reg (11+j)=V.mem (base+1+L+j)) /\
 (∀a:Int,a<11\/11+k<=a->V'.reg a=V.reg a)/\V'.inp=V.inp/\V'.out=V.out
 | 0,_,_=>⟨V,Zdl _ _ _,rfl,λ j m=>by omega,λ _ _=>rfl,rfl,rfl⟩
 | k+1,hk,hs=>by
  obtain⟨l,h1,h2,h3,f,n,g⟩:=Zrc d k (by omega) hs.left;have b:=hs.right;rw[(Zbr _ _).2.1] at b;have hL:=cx.L0;have h:=Zl0 cx (V:=l) b (by rw[f _ (by omega)];exact d) (p:=1+L+k) (by omega) (by omega) (by omega) (by omega);refine⟨_,h1.trans h,h2,λ j m=>?_,λ a ha=>?_,n,g⟩
  .by_cases c:j=k
   .subst c
    have e:base+1+L+(j:Int)=base+(1+L+j):=by omega
    rw[e,Zj,h2]
   .rw[Zh _ _ (by omega)];exact h3 j (by omega)
  .rw[Zh _ _ (by omega)];exact f a (by omega)
theorem Zux {V:S.Vw}{i:Nat}{at_:Nat}:∀k:Nat,k<=4->at_+k<=14->S.Seg I obj i (bArgs at_ k)->∃V',S.Go I V (I.adr i) k V' (I.adr (i+k))/\V'.mem=V.mem/\(∀j:Nat,j<k->V'.reg (4+j)=V.reg (11+at_+j)) /\
 (∀a:Int,a<4\/4+k<=a->V'.reg a=V.reg a)/\V'.inp=V.inp/\V'.out=V.out
 | 0,_,_,_=>⟨V,Zdl _ _ _,rfl,λ j h=>by omega,λ _ _=>rfl,rfl,rfl⟩
 | k+1,hk,hk2,hs=>by
  obtain⟨g,h1,h2,h3,d,l,e⟩:=Zux k (by omega) (by omega) hs.left;have b:=hs.right;rw[(Zbr 0 0).2.2] at b;have f:=Zf3 cx (V:=g) b (by omega) (by omega) (by omega);refine⟨_,h1.trans f,h2,λ j h=>?_,λ a ha=>?_,l,e⟩
  .by_cases c:j=k
   .subst c
    rw[Zj,d _ (by omega)]
   .rw[Zh _ _ (by omega)];exact h3 j (by omega)
  .rw[Zh _ _ (by omega)];exact d a (by omega)
theorem Zy8 {V:S.Vw}{i:Nat}{d n:Int}{r:List S.Item}(a:S.Seg I obj i (bConst d n++r))(hn:-2147483648<=n/\n<=4294967295)(b:0<d)(f:d<=24) :
 S.Go I V (I.adr i) 2 (V.set d (n%4294967296)) (I.adr (i+(bConst d n).length)):=Zyy λ m hm=>by
 unfold bConst at a⊢;by_cases c:-32768<=n/\n<32768
 .rw[if_pos c] at a⊢
  have h:=Zee cx.ok a.lo a.lt (V:=V) a.head b (by omega) (by decide);have e:S.u32m (V.reg 0+n)=n%4294967296:=by rw[hm.zero];unfold S.u32m;omega
  rw[e] at h;exact h.more (by decide)
 .rw[if_neg c] at a⊢
  have h:=Z4u cx.ok a.lo a.lt (V:=V) a.head b (by omega) (by omega);have h2:=Z06 cx.ok a.tail.lo a.tail.lt (V:=V.set d (n%4294967296/65536*65536)) a.tail.head (by decide) b (by omega) (by omega);have e:S.alu (like 17) ((V.set d (n%4294967296/65536*65536)).reg d) (S.u32m (n%4294967296%65536))=n%4294967296:=by
   have g:S.u32m (n%4294967296%65536)=n%4294967296%65536:=by unfold S.u32m;omega
   rw[Zj,g];exact Zuv (by omega) (by omega)
  rw[e] at h2;refine(h.trans h2).ext (λ j _ _ _=>?_) (λ _ _ _=>rfl) rfl rfl;by_cases c2:j=d
  .subst c2;rw[Zj,Zj]
  .rw[Zh _ _ c2,Zh _ _ c2,Zh _ _ c2]
theorem Zy9 {V st:S.Vw}{env ts vs:List Int}{op n:Int}{name:ByteArray}{kids:Nat}{i c:Nat}{Q:Int->S.Vw->Nat->Prop}{H:Int->S.Vw->Nat->Prop}(hL:(env.length:Int)=L)(U:headE L op n name kids=true)
 (c0:ts.length+max 1 kids<=14) (a7:vs.length=kids) (l:S.wpOp I dep lk op n name ts.length env vs st c Q H) (f:S.Seg I obj i (bOp (L+15) L op n name kids ts.length)) (s:S.Fm I V st base lk env (ts++vs)) :
 S.OutE I V (I.adr i) (I.adr (i+(bOp (L+15) L op n name kids ts.length).length)) c base lk env ts (λ us T c'=>∃v,us=[v]/\Q v T c') H:=by
 have b9:=cx.L0;have y:ts.length<14:=by omega
 have C:V.reg 28=base+L+15:=by rw[<- hL];exact s.sp
 unfold headE at U;simp only[Bool.and_eq_true,decide_eq_true_eq] at U;obtain⟨⟨⟨⟨hr,w⟩,D⟩,b8⟩,B⟩:=U;unfold S.wpOp at l;unfold bOp at f⊢;unfold numE at w;have fin:∀(v:Int)(k:Nat)(b:Int),S.Go I V (I.adr i) k (V.set (11+(ts.length:Int)) v) b->Q v st (c+k)->S.OutE I V (I.adr i) b c base lk env ts (λ us T c'=>∃v,us=[v]/\Q v T c') H:=λ v k b hg hq =>
  .inl ⟨[v],st,c+k,_,by omega,⟨v,rfl,hq⟩,by rw[Yat];exact hg,s.put y v,λ _ _ _=>rfl⟩
 by_cases c1:op=1
 .rw[if_pos c1] at l f w⊢
  have K:=of_decide_eq_true w;have h:=Zy8 cx (V:=V) (r:=[]) (by rw[Ybe];exact f) K (d:=11+ts.length) (by omega) (by omega);exact fin _ 2 _ h l
 rw[if_neg c1] at l f w⊢;by_cases c2:op=2
 .rw[if_pos c2] at l f w⊢
  have K:=of_decide_eq_true w;have h:=Zl0 cx (V:=V) f C (by omega) (by omega) (by omega) (by omega);have e:V.mem (base+(1+n))=env.getD n.toNat 0:=by
   have:=s.fr.env n.toNat (by omega);rw[<- this]
   congr 1
   omega
  rw[e] at h;exact fin _ 1 _ h l
 rw[if_neg c2] at l f w⊢;by_cases c3:op=3
 .rw[if_pos c3] at l f w⊢
  have b7:=Zkw w;have h:=Zf3 cx (V:=V) f (by omega) (by omega) (by omega);rw[s.mt.vis n w] at h;exact fin _ 1 _ h l
 rw[if_neg c3] at l f w⊢;by_cases c4:op=4
 .rw[if_pos c4] at l f w⊢
  have K:=of_decide_eq_true w;have u:kids=2:=by rw[D];unfold kidsE;rw[if_pos (.inl c4)]
  have v0:=s.val (k:=0) (by omega);have v1:=s.val (k:=1) (by omega);have X:V.reg (11+ts.length)=vs.getD 0 0:=by simpa using v0
  have e1:V.reg (12+ts.length)=vs.getD 1 0:=by
   rw[<- v1];congr 1;omega
  have h:=Zum cx.ok f.lo f.lt (V:=V) f.head (by omega) (by omega) (by omega) (by omega) (by omega) (λ q=>l.1 (by rw[<- e1];exact q));rw[X,e1] at h;exact fin _ 1 _ h l.2
 rw[if_neg c4] at l f w⊢;by_cases c5:op=5
 .rw[if_pos c5] at l f w⊢
  have d0:kids=1:=by rw[D];unfold kidsE;rw[if_neg (by omega),if_pos c5]
  have v0:=s.val (k:=0) (by omega);have X:V.reg (11+ts.length)=vs.getD 0 0:=by simpa using v0
  obtain⟨w1,w2,w3⟩:=l;have h:=Z2g cx.ok f.lo f.lt (V:=V) f.head (p:=S.u32m (vs.getD 0 0+n)) (by omega) (by omega) (by omega) (by rw[X]) w1;rw[s.mt.mem _ (Zat _).1 w1 w2] at h;exact fin _ 1 _ h w3
 rw[if_neg c5] at l f w⊢;by_cases c6:op=6
 .rw[if_pos c6] at l f⊢
  have Z:kids<=4:=by rw[D];unfold kidsE;rw[if_neg (by omega),if_neg c5,if_pos c6];omega
  have A:labB name=true:=by
   have:namedE op=true:=by unfold namedE;rw[decide_eq_true_eq];exact .inl c6
   rw[this] at B
   simpa using B
  obtain⟨d,R,hR,hd,hQ⟩:=l;unfold bCall at f⊢;obtain⟨V1,g1,r1,m1,k1,i1,o1⟩:=Znv cx C ts.length (by omega) f.left.left.left.left;have z:=f.left.left.left.right;rw[(Zbr _ _).1] at z;obtain⟨F,g2,m2,a2,r2,i2,o2⟩:=Zux cx (V:=V1) kids Z (by omega) z;have t:=f.left.left.right;rw[Yd,(Zbr _ _).1,(Zbr (L+15) L).2.2] at t;have a8:I.xs[i+(ts.length+kids)]?=some ⟨4,⟨0,31,0,0,0⟩,name,0⟩:=by
   have:=t.head
   show _=_
   rw[this]
   show some (⟨4,⟨0,31,0,0,0⟩,S.owned obj name,0⟩:S.Item)=_
   rw[Zey obj A]
  have g3:=Zra cx.ok t.lo t.lt (V:=F) a8 (by decide) (by decide);have G:0<=I.adr (i+(ts.length+kids)+1)/\I.adr (i+(ts.length+kids)+1)<I.size:=by
   have h1:=Zpq cx.ok (i+(ts.length+kids)+1);have h2:=Zd0 cx.ok (i:=i+(ts.length+kids)+1) (j:=I.xs.length) (by have:=t.lt;have:=cx.ok.i1l;omega);have h3:=cx.ok.size;omega
  have a9:S.Mt I (F.set 31 (I.adr (i+(ts.length+kids)+1))) (st.args vs):=by
   refine(S.Mt.hid (V:=F) ⟨λ j hj=>?_,λ a a0 W ha=>?_,by rw[i2,i1];exact s.mt.inp,by rw[o2,o1];exact s.mt.out⟩ (by decide) _)
   .show F.reg j=if 4<=j/\j<4+(vs.length:Int) then vs.getD (j-4).toNat 0 else st.reg j
    by_cases cj:4<=j/\j<4+(vs.length:Int)
    .rw[if_pos cj]
     have e:=a2 (j-4).toNat (by omega);have e2:=s.val (k:=(j-4).toNat) (by omega);rw[r1] at e;rw[<- e2,<- e]
     congr 1
     omega
    .rw[if_neg cj,r2 j (by omega),r1]
     exact s.mt.vis j hj
   .rw[m2,k1 a ?_]
    .exact s.mt.mem a a0 W ha
    .have:=cx.lo
     have:=cx.top;have:=cx.dep0;rcases Int.lt_or_le a (base+1+L) with q|q
     .exact .inl q
     .right
      by_cases q2:a<base+L+15
      .exact absurd ⟨by omega,by omega⟩ ha
      .omega
  have Y:(F.set 31 (I.adr (i+(ts.length+kids)+1))).reg 28=base+L+15:=by
   rw[Zh _ _ (by decide),r2 _ (by omega),r1];exact C
  obtain⟨o,k,b3,hD⟩:=hR _ (base+L+15) _ a9 Y (Zj _ _ _) G.1 G.2 (by have:=cx.lo;omega) (by have:=cx.top;omega);have O:=hQ _ o k b3;have g0:S.Go I V (I.adr i) (ts.length+kids+3) (F.set 31 (I.adr (i+(ts.length+kids)+1))) (I.lab name):=(g1.trans (by rw[Ybp] at g2;exact g2)).trans g3
  cases o with
  | left tq st2=>exact absurd O id
  | halt code st2 =>
   obtain⟨V4,g4,x⟩:=hD;refine .inr ⟨code,st2,_,V4,?_,O,?_,x⟩
   .omega
   .refine(g0.halt g4).more ?_
    rw[a7];omega
  | ret st2 =>
   obtain⟨V4,g4,x,a6,b5⟩:=hD;have b4:S.Go I (F.set 31 (I.adr (i+(ts.length+kids)+1))) (I.lab name) k V4 (I.adr (i+(ts.length+kids)+1)):=g4;have M:=f.left.right;rw[Yd,Yd,(Zbr _ _).1,(Zbr (L+15) L).2.2] at M;have e5:i+(ts.length+kids+[bJ 31 name].length)=i+(ts.length+kids)+1:=rfl;rw[e5] at M;obtain⟨V5,g5,m5,a5,r5,i5,o5⟩:=Zrc cx (V:=V4) a6 ts.length (by omega) M;have N:=f.right;rw[Yd,Yd,Yd,(Zbr _ _).1,(Zbr (L+15) L).2.2,(Zbr (L+15) L).2.1] at N;have e6:i+(ts.length+kids+[bJ 31 name].length+ts.length)=i+(ts.length+kids)+1+ts.length:=by simp;omega
   rw[e6] at N;have g6:=Zf3 cx (V:=V5) N (by omega) (by omega) (by decide);have P:V5.reg 4=st2.reg 4:=by rw[r5 4 (by omega)];exact x.vis 4 (by decide)
   rw[P] at g6;have E:∀a,I.lo<=a->a<base+L+15->V5.mem a=V1.mem a:=λ a a0 W=>by
    rw[m5,b5 a a0 W]
    show F.mem a=_
    rw[m2]
   have b6:=cx.lo;have b2:S.Fm I V5 st2 base lk env (ts++[]):=by
    refine⟨⟨λ j hj=>?_,λ a a0 W ha=>by rw[m5];exact x.mem a a0 W ha,by rw[i5];exact x.inp,by rw[o5];exact x.out⟩,?_,?_,?_,?_⟩
    .have:=Zkw hj
     rw[r5 j (by omega)];exact x.vis j hj
    .rw[r5 28 (by omega),a6,hL]
    .rw[E base b6 (by omega),k1 base (by omega)];exact s.fr.lk
    .intro k2 u
     rw[E _ (by omega) (by omega),k1 _ (by omega)];exact s.fr.env k2 u
    .intro k2 u
     rw[Ybe] at u⊢;rw[a5 k2 u,<- m5,E _ (by omega) (by omega),m1 k2 u,s.fr.ts k2 (by simp;omega),Zd1 ts vs k2 u]
   refine .inl ⟨[st2.reg 4],st2,_,_,?_,⟨_,rfl,O⟩,?_,b2.put y _,λ a a0 W=>?_⟩
   .omega
   .have gg:=((g0.trans b4).trans g5).trans g6
    have el:i+(bStores (L+15) L ts.length++bArgs ts.length kids++[bJ 31 name]++bLoads (L+15) L ts.length++[bMove (11+↑ts.length) 4]).length=i+(ts.length+kids)+1+ts.length+1:=by
     simp only[Yd,(Zbr (L+15) L).1,(Zbr (L+15) L).2.1,(Zbr (L+15) L).2.2,List.length_cons,List.length_nil];omega
    rw[el];refine gg.more ?_;rw[a7];omega
   .show V5.mem a=V.mem a
    rw[E a a0 (by omega),k1 a (by omega)]
 rw[if_neg c6] at l f⊢;by_cases c7:op=7
 .rw[if_pos c7] at l f⊢
  have u:kids=2:=by rw[D];unfold kidsE;rw[if_pos (.inr c7)]
  have v0:=s.val (k:=0) (by omega);have v1:=s.val (k:=1) (by omega);have X:V.reg (11+ts.length)=vs.getD 0 0:=by simpa using v0
  have e1:V.reg (12+ts.length)=vs.getD 1 0:=by
   rw[<- v1];congr 1;omega
  obtain⟨v,P⟩:∃v:Int,v=if vs.getD 0 0=vs.getD 1 0 then 1 else 0:=⟨_,rfl⟩
  have g:S.Go I V (I.adr i) 3 ((V.set (11+ts.length) v).set (11+(ts.length+1:Nat)) 1) (I.adr (i+3)):=Zyy λ m hm=>by
   have b0:=hm.rbd (j:=11+ts.length) (by omega) (by omega) (by omega);have b1:=hm.rbd (j:=12+ts.length) (by omega) (by omega) (by omega);have J:=f.left.left;have g1:=Zum cx.ok J.lo J.lt (V:=V) J.head (by decide) (by omega) (by omega) (by omega) (by omega) (λ _=>by decide);have z:=f.left.right;have g2:=Zee cx.ok z.lo z.lt (V:=V.set (11+ts.length) (S.alu 9 (V.reg (11+ts.length)) (V.reg (12+ts.length)))) (d:=12+ts.length) (a:=0) (n:=1) z.head (by omega) (by omega) (by decide);have ez:S.u32m ((V.set (11+ts.length) (S.alu 9 (V.reg (11+ts.length)) (V.reg (12+ts.length)))).reg 0+1)=1:=by
    rw[Zh _ _ (by omega),hm.zero];decide
   rw[ez] at g2;have t:=f.right;have g3:=Zum cx.ok t.lo t.lt (V:=(V.set (11+ts.length) (S.alu 9 (V.reg (11+ts.length)) (V.reg (12+ts.length)))).set (12+ts.length) 1) t.head (by decide) (by omega) (by omega) (by omega) (by omega) (λ _=>by decide);have ev:S.alu 14 (((V.set (11+ts.length) (S.alu 9 (V.reg (11+ts.length)) (V.reg (12+ts.length)))).set (12+ts.length) 1).reg (11+ts.length)) (((V.set (11+ts.length) (S.alu 9 (V.reg (11+ts.length)) (V.reg (12+ts.length)))).set (12+ts.length) 1).reg (12+ts.length))=v:=by
    rw[Zj,Zh _ _ (by omega),Zj,X,e1,P];rw[X] at b0;rw[e1] at b1
    show truth (bits .xor .u32 (vs.getD 0 0) (vs.getD 1 0)<1)=_
    rw[u32_xor b0.1 b0.2 b1.1 b1.2];unfold truth;by_cases ce:vs.getD 0 0=vs.getD 1 0
    .rw[if_pos ce,ce,if_pos (by simp)]
    .rw[if_neg ce,if_neg]
     intro q;have q0:(vs.getD 0 0).toNat ^^^ (vs.getD 1 0).toNat=0:=by omega
     have q1:(vs.getD 0 0).toNat=(vs.getD 1 0).toNat:=by
      have:=congrArg (· ^^^ (vs.getD 1 0).toNat) q0
      simpa[Nat.xor_assoc] using this
     omega
   rw[ev] at g3;refine((g1.trans g2).trans g3).ext (λ j _ _ _=>?_) (λ _ _ _=>rfl) rfl rfl;by_cases j1:j=11+(ts.length:Int)
   .subst j1
    rw[Zj,Zh _ _ (by omega),Zj]
   .rw[Zh _ _ j1]
    by_cases j2:j=11+((ts.length+1:Nat):Int)
    .have e12:j=12+(ts.length:Int):=by omega
     rw[j2,Zj,<- j2,e12,Zj]
    .rw[Zh _ _ (by omega),Zh _ _ j1,Zh _ _ j2,Zh _ _ j1]
  refine .inl ⟨[v],st,c+3,_,by omega,⟨v,rfl,by rw[P];exact l⟩,by rw[Yat];exact g,(s.put y v).over (by omega) (by simp) 1,λ _ _ _=>rfl⟩
 rw[if_neg c7] at l f⊢;by_cases c8:op=8
 .rw[if_pos c8] at l f⊢
  have g:=Z60 cx.ok f.lo f.lt (V:=V) f.head (by omega) (by omega);have a4:S.Fm I { V with inp:=V.inp.tail } { st with inp:=st.inp.tail } base lk env (ts++vs) :=
   ⟨⟨s.mt.vis,s.mt.mem,by show V.inp.tail=st.inp.tail;rw[s.mt.inp],s.mt.out⟩,s.sp,⟨s.fr.lk,s.fr.env,s.fr.ts⟩⟩
  obtain⟨v,P⟩:∃v:Int,v=S.inByte V.inp:=⟨_,rfl⟩
  rw[<- P] at g;rw[<- s.mt.inp] at l a4;rw[<- P] at l;exact .inl ⟨[v],_,c+1,_,by omega,⟨v,rfl,l⟩,by rw[Yat];exact g,a4.put y v,λ _ _ _=>rfl⟩
 rw[if_neg c8] at l f⊢;by_cases c9:op=9
 .rw[if_pos c9] at l f⊢
  have A:labB name=true:=by
   have:namedE op=true:=by unfold namedE;rw[decide_eq_true_eq];exact .inr c9
   rw[this] at B
   simpa using B
  have hh:I.xs[i]?=some ⟨5,⟨0,11+ts.length,0,0,0⟩,name,0⟩:=by
   rw[f.head]
   show some (⟨5,⟨0,11+ts.length,0,0,0⟩,S.owned obj name,0⟩:S.Item)=_
   rw[Zey obj A]
  have g:=Z2l cx.ok f.lo f.lt (V:=V) hh (by omega) (by omega) (by omega);exact fin _ 2 _ g l
 rw[if_neg c9] at l f⊢;by_cases a3:op=10
 .rw[if_pos a3] at l f⊢
  have h:=Zl0 cx (V:=V) f C (by omega) (by omega) (by omega) (by omega);have e:V.mem (base+0)=lk:=by rw[Int.add_zero];exact s.fr.lk
  rw[e] at h;exact fin _ 1 _ h l
 rw[if_neg a3] at l;exact absurd l id
end
end
