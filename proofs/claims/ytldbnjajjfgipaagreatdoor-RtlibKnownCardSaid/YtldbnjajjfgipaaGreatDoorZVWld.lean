/- Parts. -/
import Derived.Test.YtldbnjajjfgipaaGreatDoorZGWld
import Derived.Test.YtldbnjajjfgipaaGreatDoorZVImg
set_option linter.all false
open List renaming length_append->Yc,getElem?_eq_getElem->Ye,getElem?_eq_some_iff->Yg,getD_eq_getElem?_getD->Yh,getElem?_append_left->Ym,getElem?_append_right->Yn,replicate->Y1,length_map->Y3
open Nat renaming le_refl->Yd,add_zero->Ybb
namespace Go.Proofs.YtldbnjajjfgipaaGreatDoor
open S Go.RowKit
section
section
variable {gw sw:List Int}{F:List Int}{size:Int}{b:Bool}
theorem Zw1 {j:Nat}{o:S.Obj}(hj:(objs26++objs28++[oMainV])[j]?=some o):∃i,Seg (aa b gw sw F size) o.name i o.items:=by
 obtain⟨A,B,e⟩:=Zk5 hj;have hx:=Za5 gw sw;have hl:=Zbe gw sw;have hm:midV=A++(o.items.map (ownItem o.name)++B):=e;refine⟨gw.length+sw.length+8+A.length,λ k x hk=>?_,?_,?_⟩
 .show(joined (wObjsV gw sw))[_]?=_
  rw[hx,Yn (by omega),hl,hm];have hlt:=(Yg.1 hk).1;rw[Ym (by simp only[Yc,Y3];omega),Yn (by omega),Ym (by rw[Y3];omega)];rw[show gw.length+sw.length+8+A.length+k-(gw.length+sw.length+8)-A.length=k from by omega,List.getElem?_map,hk];rfl
 .show(if b=true then 2+gw.length+sw.length else gw.length+sw.length+8)<=_
  split <;> omega
 .show _<=gw.length+sw.length+8+midV.length
  rw[hm];simp only[Yc,Y3];omega
theorem Zug {j:Nat}{r:BR}(hj:(objs26++objs28++[oMainV])[j]?=some (ofR r)):∃i,Seg (aa b gw sw F size) r.name i (bItems r):=Zw1 hj
theorem Z8 {i:Nat}{x:S.Item}(h:(hItems gw sw)[i]?=some x):(aa b gw sw F size).xs[i]?=some x:=by
 show(joined (wObjsV gw sw))[i]?=_
 rw[Za5,Ym (Yg.1 h).1];exact h
theorem Zkm {i:Nat}{x:S.Item}(h:tItems[i]?=some x):(aa b gw sw F size).xs[gw.length+sw.length+8+midV.length+i]?=some x:=by
 show(joined (wObjsV gw sw))[_]?=_
 have hl:=Zbe gw sw;rw[Za5,Yn (by omega),hl,Yn (by omega)];rw[show gw.length+sw.length+8+midV.length+i-(gw.length+sw.length+8)-midV.length=i from by omega];exact h
variable (hI:(aa b gw sw F size).Ok)
include hI
theorem Zbu {i:Nat}{x:S.Item}(hx:(aa b gw sw F size).xs[i]?=some x)(hk:x.kind=2):(aa b gw sw F size).lab x.label=(aa b gw sw F size).adr i:=by
 unfold Img.lab;rw[Zg7 hI hx hk];rfl
theorem Ze4:∀k:Nat,k<=gw.length->(aa b gw sw F size).adr (1+k)=1312+k
 | 0,_=>by
  have:=Zw hI (i:=0) (x:=bSp 1312) (Z8 rfl);rw[this]
  show 0+S.size (bSp 1312) _=_
  unfold S.size bSp;simp
 | k+1,h=>by
  have ih:=Ze4 k (by omega);have:=Zw hI (i:=1+k) (Z8 (Zxa (by omega)));rw[show 1+(k+1)=1+k+1 from by omega,this,ih]
  show 1312+(k:Int)+1=_
  omega
theorem Zny:(aa b gw sw F size).adr (2+gw.length)=1312+gw.length:=by
 have h0:=Ze4 hI gw.length (Yd _);have:=Zw hI (i:=1+gw.length) (x:=bL kStatic) (Z8 (by have:=Zn7 (gw:=gw) (sw:=sw) (k:=0);rw[Ybb] at this;rw[this];rfl));rw[show 2+gw.length=1+gw.length+1 from by omega,this,h0]
 show 1312+(gw.length:Int)+0=_
 omega
theorem Ze5:∀k:Nat,k<=sw.length->(aa b gw sw F size).adr (2+gw.length+k)=1312+gw.length+k
 | 0,_=>by rw[Ybb,Zny hI];omega
 | k+1,h=>by
  have ih:=Ze5 k (by omega);have:=Zw hI (i:=2+gw.length+k) (Z8 (Zxb (by omega)));rw[show 2+gw.length+(k+1)=2+gw.length+k+1 from by omega,this,ih]
  show 1312+(gw.length:Int)+k+1=_
  omega
theorem Zdw:(aa b gw sw F size).lab kStatic=1312+gw.length/\(aa b gw sw F size).lab kCode=1312+gw.length+sw.length/\(aa b gw sw F size).lab kStub=1312+gw.length+sw.length/\(aa b gw sw F size).lab kMapped=1312+gw.length+sw.length+1 /\
 (aa b gw sw F size).adr (2+gw.length+sw.length+2)=1312+gw.length+sw.length/\(aa b gw sw F size).adr (2+gw.length+sw.length+4)=1312+gw.length+sw.length+1/\(aa b gw sw F size).adr (2+gw.length+sw.length+6)=1312+gw.length+sw.length+3:=by
 have a0:=Ze5 hI sw.length (Yd _);have x0:(aa b gw sw F size).xs[2+gw.length+sw.length]?=some (bL kCode):=Z8 (Zk6 (k:=0));have x1:(aa b gw sw F size).xs[2+gw.length+sw.length+1]?=some (bL kStub):=Z8 Zk6;have x2:(aa b gw sw F size).xs[2+gw.length+sw.length+2]?=some bHalt:=Z8 Zk6;have x3:(aa b gw sw F size).xs[2+gw.length+sw.length+3]?=some (bL kMapped):=Z8 Zk6;have x4:(aa b gw sw F size).xs[2+gw.length+sw.length+4]?=some (bW 0):=Z8 Zk6;have x5:(aa b gw sw F size).xs[2+gw.length+sw.length+5]?=some bHalt:=Z8 Zk6;have xs:(aa b gw sw F size).xs[1+gw.length]?=some (bL kStatic):=Z8 (by have:=Zn7 (gw:=gw) (sw:=sw) (k:=0);rw[Ybb] at this;rw[this];rfl);have hs1:=Ze4 hI gw.length (Yd _);have l0:=Zbu hI x0 rfl;have l1:=Zbu hI x1 rfl;have l3:=Zbu hI x3 rfl;have ls:=Zbu hI xs rfl;obtain⟨I,hIe⟩:=Yx (aa b gw sw F size);obtain⟨M,hM⟩:=Yx (2+gw.length+sw.length);rw[<- hIe] at hI a0 x0 x1 x2 x3 x4 x5 hs1 l0 l1 l3 ls⊢;rw[<- hM] at a0 x0 x1 x2 x3 x4 x5 l0 l1 l3⊢;have n0:I.adr (M+1)=I.adr M+0:=Zw hI x0;have n1:I.adr (M+2)=I.adr (M+1)+0:=Zw hI x1;have n2:I.adr (M+3)=I.adr (M+2)+1:=Zw hI x2;have n3:I.adr (M+4)=I.adr (M+3)+0:=Zw hI x3;have n4:I.adr (M+5)=I.adr (M+4)+1:=Zw hI x4;have n5:I.adr (M+6)=I.adr (M+5)+1:=Zw hI x5;have k0:I.lab kCode=I.adr M:=l0;have k1:I.lab kStub=I.adr (M+1):=l1;have k3:I.lab kMapped=I.adr (M+3):=l3;exact⟨ls.trans hs1,by omega,by omega,by omega,by omega,by omega,by omega⟩
end
attribute [local irreducible] midV
section
variable {gw sw:List Int}{F:List Int}{size:Int}{b:Bool}(hI:(aa b gw sw F size).Ok)
include hI
theorem Zdx:(aa b gw sw F size).lab kMore=(aa b gw sw F size).adr (aa b gw sw F size).i1/\(aa b gw sw F size).lab kEnd=(aa b gw sw F size).lab kMore+8/\(aa b gw sw F size).adr (aa b gw sw F size).xs.length=(aa b gw sw F size).lab kEnd:=by
 obtain⟨M,hM⟩:=Yx (aa b gw sw F size).i1;have hM2:M=gw.length+sw.length+8+midV.length:=hM;have x0:(aa b gw sw F size).xs[M]?=some (bL kMore):=by rw[hM2];exact Zkm (i:=0) rfl
 have x1:(aa b gw sw F size).xs[M+1]?=some (bSp 8):=by rw[hM2];exact Zkm (i:=1) rfl
 have x2:(aa b gw sw F size).xs[M+2]?=some (bL kEnd):=by rw[hM2];exact Zkm (i:=2) rfl
 have hlen:(aa b gw sw F size).xs.length=M+3:=by
  rw[hM2]
  show(joined (wObjsV gw sw)).length=_
  rw[Za5,Yc,Yc,Zbe,show tItems.length=3 from rfl];omega
 rw[<- hM,hlen];clear hM hM2 hlen;obtain⟨I,hIe⟩:=Yx (aa b gw sw F size);have l0:=Zbu hI x0 rfl;have l2:=Zbu hI x2 rfl;rw[<- hIe] at hI x0 x1 x2 l0 l2⊢;have n0:I.adr (M+1)=I.adr M+0:=Zw hI x0;have n1:I.adr (M+1+1)=I.adr (M+1)+S.size (bSp 8) (I.F.getD (M+1) 0):=Zw hI x1;have n2:I.adr (M+2+1)=I.adr (M+2)+0:=Zw hI x2;have e8:S.size (bSp 8) (I.F.getD (M+1) 0)=8:=by
  unfold S.size bSp;simp
 rw[e8] at n1;have k0:I.lab kMore=I.adr M:=l0;have k2:I.lab kEnd=I.adr (M+2):=l2;have e2:M+1+1=M+2:=rfl;have e3:M+2+1=M+3:=rfl;rw[e2] at n1;rw[e3] at n2;exact⟨k0,by omega,by omega⟩
end
end
section
attribute [local irreducible] midV objs28 objs26
namespace S
structure WdV (gw sw F:List Int)(size:Int)(m:Mach):Prop where
 ok:m.Ok
 run:m.state=0
 len:(m.mem.length:Int)=size
 code:(aa true gw sw F size).In m.mem
 r28:m.rd 28=1056
 out:m.out=[]
 steps:m.steps=0
end S
section
variable {gw sw F:List Int}{size:Int}(hI:(aa true gw sw F size).Ok)
include hI
theorem Zzv {m:S.Mach}(h:S.WdV gw sw F size m){i v:Int}(hi:0<=i/\i<size)(hc:¬(aa true gw sw F size).code i)(hv:0<=v/\v<=4294967295):S.WdV gw sw F size (m.putV i v):=by
 obtain⟨e1,e2,e3,e4,e5,e6,e7⟩:=Za3 m i v;refine⟨Zrp h.ok hv,e5.trans h.run,by rw[e7];exact h.len,?_,by rw[Zm0];exact h.r28,e4.trans h.out,e6.trans h.steps⟩;rw[Zmz hi.1 (by have:=h.len;omega)];exact Zro hI h.code hi.1 hc v
theorem Zef {m:S.Mach}(h:S.WdV gw sw F size m){i v:Int}(hi:0<i/\i<32)(h28:i=28->v=1056)(hv:0<=v/\v<=4294967295):S.WdV gw sw F size (m.setV i v):=by
 have hk:(m.setV i v).Ok:=by
  unfold S.Mach.setV;rw[if_pos ⟨by omega,hi.2⟩];exact Zih h.ok (by omega) hv
 have hr:=Zbh h.ok (v:=v) (j:=28) hi.1 hi.2;rw[Za6 hi.1 hi.2] at hk hr⊢;refine⟨hk,h.run,h.len,h.code,?_,h.out,h.steps⟩;rw[hr]
 split
 .rename_i c;exact h28 c.symm
 .exact h.r28
theorem Zuh {j:Nat}{x:S.Item}(hx:(aa true gw sw F size).xs[j]?=some x)(hk:x.kind=2) :
 findP (placesTo (joined (wObjsV gw sw)) F 0 (joined (wObjsV gw sw)).length) x.label=some ((aa true gw sw F size).lab x.label):=by
 have key:∀(L:List (ByteArray×Int)) (s:ByteArray) (v:Int),(∃q:Nat,L[q]?=some (s,v))->(∀(q:Nat)(u:Int),L[q]?=some (s,u)->u=v)->findP L s=some v:=by
  intro L
  induction L with
  | nil=>rintro s v ⟨q,hq⟩;cases hq
  | cons p r ih =>
   rintro s v ⟨q,hq⟩ hu;obtain⟨n,u⟩:=p;rw[findP];simp only;by_cases c:n=s
   .subst c
    rw[if_pos rfl,hu 0 u rfl]
   .rw[if_neg c]
    refine ih s v ?_ λ q u h=>hu (q+1) u h
    cases q with
    | zero=>cases hq;exact absurd rfl c
    | succ q=>exact⟨q,hq⟩
 have hs:=Zg7 hI hx hk;have hlab:=Zbu hI hx hk;have hj:=(Yg.1 hx).1;refine key _ _ _ ?_ λ q u hq=>?_
 .obtain⟨q,hq⟩:=Zis (F:=F) (base:=0) hs _ hj
  exact⟨q,by rw[hlab];exact hq⟩
 .obtain⟨j',h1,h2,_⟩:=Zgw (Zr0 hI) _ q _ u hq
  have:j'=j:=by
   have h3:stands (aa true gw sw F size).xs x.label=j':=h1;omega
  subst this;rw[hlab];exact h2
end
def S.ac (gw sw F:List Int):List Int:=outTo (joined (wObjsV gw sw)) F 0 (joined (wObjsV gw sw)).length
section
variable {gw sw F:List Int}{size:Int}(hI:(aa true gw sw F size).Ok)
include hI
theorem Znz:((ac gw sw F).length:Int)=(aa true gw sw F size).lab kEnd:=by
 have:=Zao (base:=0) (Zah hI) (Zcs (Zb4 hI)) hI.words (joined (wObjsV gw sw)).length;have h2:=(Zdx hI).2.2;unfold ac;have h3:addr (joined (wObjsV gw sw)) F 0 (joined (wObjsV gw sw)).length=(aa true gw sw F size).adr (aa true gw sw F size).xs.length:=rfl;have h4:((outTo (joined (wObjsV gw sw)) F 0 (joined (wObjsV gw sw)).length).length:Int)=addr (joined (wObjsV gw sw)) F 0 (joined (wObjsV gw sw)).length-0:=this;omega
theorem Zo2 {i j:Nat}{v:Int}(hi:i<(aa true gw sw F size).xs.length)(hj:(wordsAt (aa true gw sw F size).xs F 0 i)[j]?=some v):(ac gw sw F)[((aa true gw sw F size).adr i).toNat+j]?=some v :=
 Zxk (Zah hI) (Zcs (Zb4 hI)) hI.words hj _ hi
theorem Zzw {a:Nat}(ha:a<1312):(ac gw sw F)[a]?=some 0:=by
 have hx:(aa true gw sw F size).xs[0]?=some (bSp 1312):=Z8 rfl;have hw:wordsAt (aa true gw sw F size).xs F 0 0=Y1 1312 0:=by
  unfold wordsAt;rw[hx];exact Zpb _ _ _ _
 have:=Zo2 hI (i:=0) (j:=a) (v:=0) (Yg.1 hx).1 (by rw[hw,List.getElem?_replicate,if_pos ha]);rw[show((aa true gw sw F size).adr 0).toNat+a=a from by show(0:Int).toNat+a=a;simp] at this;exact this
theorem Zw2 {k:Nat}(hk:k<gw.length):(ac gw sw F)[1312+k]?=some gw[k]:=by
 have hx:(aa true gw sw F size).xs[1+k]?=some (bW gw[k]):=Z8 (Zxa hk);have ha:=Ze4 hI k (by omega);have hw:wordsAt (aa true gw sw F size).xs F 0 (1+k)=[gw[k]]:=by
  unfold wordsAt;rw[hx];exact Zg0 _ _ _ _
 have:=Zo2 hI (i:=1+k) (j:=0) (v:=gw[k]) (Yg.1 hx).1 (by rw[hw];rfl);rw[ha,show((1312:Int)+k).toNat+0=1312+k from by omega] at this;exact this
theorem Zw3 {k:Nat}(hk:k<sw.length):(ac gw sw F)[1312+gw.length+k]?=some sw[k]:=by
 have hx:(aa true gw sw F size).xs[2+gw.length+k]?=some (bW sw[k]):=Z8 (Zxb hk);have ha:=Ze5 hI k (by omega);have hw:wordsAt (aa true gw sw F size).xs F 0 (2+gw.length+k)=[sw[k]]:=by
  unfold wordsAt;rw[hx];exact Zg0 _ _ _ _
 have:=Zo2 hI (i:=2+gw.length+k) (j:=0) (v:=sw[k]) (Yg.1 hx).1 (by rw[hw];rfl);rw[ha,show((1312:Int)+gw.length+k).toNat+0=1312+gw.length+k from by omega] at this;exact this
theorem Ze6 {a:Int}:(aa true gw sw F size).code a↔1312+gw.length+sw.length<=a/\a<(aa true gw sw F size).lab kEnd-8:=by
 have h1:=Zdw hI;have h2:=Zdx hI;have e0:(aa true gw sw F size).adr (aa true gw sw F size).i0=1312+gw.length+sw.length:=by
  have:=Ze5 hI sw.length (Yd _);exact this
 unfold Img.code;rw[e0]
 constructor
 .rintro⟨q1,q2⟩;exact⟨q1,by omega⟩
 .rintro⟨q1,q2⟩;exact⟨q1,by omega⟩
theorem Zdf:1312+gw.length+sw.length+3+8<=(aa true gw sw F size).lab kEnd/\(aa true gw sw F size).lab kEnd<size:=by
 have h1:=Zdw hI;have h2:=Zdx hI;have hs:=hI.size;have h3:(aa true gw sw F size).size=size:=rfl;have hle:=Zcv hI (i:=2+gw.length+sw.length+6) (j:=(aa true gw sw F size).i1) (by
  have h2:(aa true gw sw F size).i1=gw.length+sw.length+8+midV.length:=rfl;omega)
 exact⟨by omega,by omega⟩
end
structure S.bz (gw sw F:List Int)(heap:Int)(m:S.Mach):Prop where
 rd:∀j,m.rd j=if j=28 then 1056 else if j=27 then(ac gw sw F).length+heap/2 else if j=26 then(ac gw sw F).length else 0
 m1:m.mv 1=heap
 m2:m.mv 2=(ac gw sw F).length
 m3:m.mv 3=(ac gw sw F).length+heap/2
 m4:m.mv 4=heap/2
 m5:m.mv 5=38
 low:∀a,5<a->a<1312->m.mv a=0
 glob:∀k:Nat,k<gw.length->m.mv (1312+k)=gw.getD k 0
 stat:∀k:Nat,k<sw.length->m.mv (1312+gw.length+k)=sw.getD k 0
theorem Zui {gw sw F:List Int}{heap:Int}{inp:List Int}(hI:(aa true gw sw F ((ac gw sw F).length+heap)).Ok)(hw:∀x∈ac gw sw F,0<=x/\x<=4294967295)(hi:∀x∈inp,0<=x/\x<=255)(hh:0<=heap) :
 S.WdV gw sw F ((ac gw sw F).length+heap) (wM (ac gw sw F) heap inp)/\bz gw sw F heap (wM (ac gw sw F) heap inp):=by
 obtain⟨L,hL⟩:=Yx (ac gw sw F);have hlen:=Znz hI;have hend:=Zdf hI;have hcode:=λ a=>Ze6 hI (a:=a)
 have hs2:=hI.size2;have hs3:(aa true gw sw F ((ac gw sw F).length+heap)).size=(ac gw sw F).length+heap:=rfl;obtain⟨E,hE⟩:=Yx ((aa true gw sw F ((ac gw sw F).length+heap)).lab kEnd);rw[<- hE] at hlen hend hcode;obtain⟨m0,hm0⟩:=Yx (Zh9 L (L.length+heap).toNat inp);have hml:m0.mem.length=(L.length+heap).toNat:=by
  rw[hm0]
  show(L++Y1 ((L.length+heap).toNat-L.length) 0).length=_
  rw[Yc,List.length_replicate];omega
 have hok0:m0.Ok:=by
  rw[hm0];exact Zso (by rw[hL];omega) (by omega) (by rw[hL];exact hw) hi
 have hmv:∀a:Nat,a<L.length->m0.mv a=L.getD a 0:=λ a ha=>by
  rw[hm0]
  show(L++Y1 ((L.length+heap).toNat-L.length) 0).getD (a:Int).toNat 0=_
  rw[Int.toNat_natCast,Yh,Ym ha,Yh]
 have hin:(aa true gw sw F ((ac gw sw F).length+heap)).In m0.mem:=by
  intro i h0 h1 j w hj;have hlt:i<(aa true gw sw F ((ac gw sw F).length+heap)).xs.length:=Nat.lt_of_lt_of_le h1 hI.i1l;have h:=Zo2 hI hlt hj;rw[hm0,hL]
  show(ac gw sw F++Y1 _ 0).getD _ 0=w
  rw[Yh,Ym (Yg.1 h).1,h];rfl
 have hrd0:∀j,m0.rd j=0:=λ j=>by
  rw[hm0];exact Zf9 32 j.toNat
 have hbd:(L.length:Int)+heap<=335544320:=by rw[hL];omega
 have hL1:(1312:Int)+11<=L.length:=by rw[hL];omega
 have ncode:∀a:Int,a<1312->¬(aa true gw sw F ((ac gw sw F).length+heap)).code a:=λ a ha hc=>by
  have:=(hcode a).1 hc;omega
 have put1:∀(m:S.Mach)(i v:Int),(m.Ok/\(m.mem.length:Int)=L.length+heap/\(aa true gw sw F ((ac gw sw F).length+heap)).In m.mem/\m.state=0/\m.out=[]/\m.steps=0)->0<=i->i<1312->0<=v->v<=4294967295 ->
  ((m.putV i v).Ok/\((m.putV i v).mem.length:Int)=L.length+heap/\(aa true gw sw F ((ac gw sw F).length+heap)).In (m.putV i v).mem/\(m.putV i v).state=0/\(m.putV i v).out=[]/\(m.putV i v).steps=0)/\(∀a,0<=a->(m.putV i v).mv a=if a=i then v else m.mv a)/\∀j,(m.putV i v).rd j=m.rd j:=by
  rintro m i v ⟨k1,k2,k3,k4,k5,k6⟩ h0 h1 h2 h3;obtain⟨e1,e2,e3,e4,e5,e6,e7⟩:=Za3 m i v;refine⟨⟨Zrp k1 ⟨h2,h3⟩,by rw[e7];exact k2,?_,e5.trans k4,e4.trans k5,e6.trans k6⟩,λ a ha=>Zrn h0 (by omega) ha,λ j=>Zm0 m i v j⟩;rw[Zmz h0 (by omega)];exact Zro hI k3 h0 (ncode i h1) v
 have set1:∀(m:S.Mach)(i v:Int),(m.Ok/\(m.mem.length:Int)=L.length+heap/\(aa true gw sw F ((ac gw sw F).length+heap)).In m.mem/\m.state=0/\m.out=[]/\m.steps=0)->0<i->i<32->0<=v->v<=4294967295 ->
  ((m.setV i v).Ok/\((m.setV i v).mem.length:Int)=L.length+heap/\(aa true gw sw F ((ac gw sw F).length+heap)).In (m.setV i v).mem/\(m.setV i v).state=0/\(m.setV i v).out=[]/\(m.setV i v).steps=0)/\(∀a,(m.setV i v).mv a=m.mv a)/\∀j,(m.setV i v).rd j=if j=i then v else m.rd j:=by
  rintro m i v ⟨k1,k2,k3,k4,k5,k6⟩ h0 h1 h2 h3;have hk:(m.setV i v).Ok:=by
   unfold S.Mach.setV;rw[if_pos ⟨by omega,h1⟩];exact Zih k1 (by omega) ⟨h2,h3⟩
  refine⟨⟨hk,?_,?_,?_,?_,?_⟩,λ a=>Zcp h0 h1,λ j=>Zbh k1 h0 h1⟩
  all_goals rw[Za6 h0 h1]
  .exact k2
  .exact k3
  .exact k4
  .exact k5
  .exact k6
 have s0:m0.Ok/\(m0.mem.length:Int)=L.length+heap/\(aa true gw sw F ((ac gw sw F).length+heap)).In m0.mem/\m0.state=0/\m0.out=[]/\m0.steps=0:=⟨hok0,by omega,hin,by rw[hm0];rfl,by rw[hm0];rfl,by rw[hm0];rfl⟩
 obtain⟨s1,v1,r1⟩:=put1 m0 1 heap s0 (by decide) (by decide) hh (by omega);obtain⟨s2,v2,r2⟩:=put1 _ 2 L.length s1 (by decide) (by decide) (by omega) (by omega);obtain⟨s3,v3,r3⟩:=put1 _ 3 (L.length+heap/2) s2 (by decide) (by decide) (by omega) (by omega);obtain⟨s4,v4,r4⟩:=put1 _ 4 (heap/2) s3 (by decide) (by decide) (by omega) (by omega);obtain⟨s5,v5,r5⟩:=put1 _ 5 38 s4 (by decide) (by decide) (by omega) (by omega);obtain⟨s6,v6,r6⟩:=set1 _ 26 L.length s5 (by decide) (by decide) (by omega) (by omega);obtain⟨s7,v7,r7⟩:=set1 _ 27 (L.length+heap/2) s6 (by decide) (by decide) (by omega) (by omega);obtain⟨s8,v8,r8⟩:=set1 _ 28 1056 s7 (by decide) (by decide) (by omega) (by omega);have hM:wM (ac gw sw F) heap inp=((((((((m0.putV 1 heap).putV 2 L.length).putV 3 (L.length+heap/2)).putV 4 (heap/2)).putV 5 38).setV 26 L.length).setV 27 (L.length+heap/2)).setV 28 1056):=by
  rw[hm0,hL];rfl
 rw[hM];obtain⟨m,hm⟩:=Yx ((((((((m0.putV 1 heap).putV 2 L.length).putV 3 (L.length+heap/2)).putV 4 (heap/2)).putV 5 38).setV 26 L.length).setV 27 (L.length+heap/2)).setV 28 1056);rw[<- hm] at s8 v8 r8⊢;have hrd:∀j,m.rd j=if j=28 then 1056 else if j=27 then L.length+heap/2 else if j=26 then(L.length:Int) else 0:=λ j=>by
  rw[r8,r7,r6,r5,r4,r3,r2,r1,hrd0]
 have hmv8:∀a,0<=a->m.mv a=if a=5 then 38 else if a=4 then heap/2 else if a=3 then L.length+heap/2 else if a=2 then(L.length:Int) else if a=1 then heap else m0.mv a:=λ a ha=>by
  rw[v8,v7,v6,v5 a ha,v4 a ha,v3 a ha,v2 a ha,v1 a ha]
 have hat:∀(a:Nat)(v:Int),5<a->L[a]?=some v->m.mv a=v:=λ a v ha hv=>by
  rw[hmv8 a (by omega),if_neg (by omega),if_neg (by omega),if_neg (by omega),if_neg (by omega),if_neg (by omega),hmv a (Yg.1 hv).1,Yh,hv];rfl
 refine⟨⟨s8.1,s8.2.2.2.1,?_,s8.2.2.1,by rw[hrd];rfl,s8.2.2.2.2.1,s8.2.2.2.2.2⟩,⟨λ j=>by rw[hrd,hL],?_,?_,?_,?_,?_,λ a h1 h2=>?_,λ k hk=>?_,λ k hk=>?_⟩⟩
 .rw[s8.2.1,hL]
 .rw[hmv8 1 (by decide)];rfl
 .rw[hmv8 2 (by decide),hL];rfl
 .rw[hmv8 3 (by decide),hL];rfl
 .rw[hmv8 4 (by decide)];rfl
 .rw[hmv8 5 (by decide)];rfl
 .obtain⟨n,rfl⟩:=Int.eq_ofNat_of_zero_le (show 0<=a from by omega)
  exact hat n 0 (by omega) (by rw[hL];exact Zzw hI (by omega))
 .have:=hat (1312+k) gw[k] (by omega) (by rw[hL];exact Zw2 hI hk)
  rw[Yh,Ye hk];rw[show((1312+k:Nat):Int)=1312+(k:Int) from by omega] at this;exact this
 .have:=hat (1312+gw.length+k) sw[k] (by omega) (by rw[hL];exact Zw3 hI hk)
  rw[Yh,Ye hk];rw[show((1312+gw.length+k:Nat):Int)=1312+(gw.length:Int)+k from by omega] at this;exact this
end
