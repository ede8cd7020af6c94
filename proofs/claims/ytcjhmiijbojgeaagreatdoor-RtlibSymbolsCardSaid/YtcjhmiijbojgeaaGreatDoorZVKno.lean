/- Parts. -/
import Derived.Test.YtcjhmiijbojgeaaGreatDoorZVWr
set_option linter.all false
open List renaming getElem?_eq_some_iff->Yg,length_cons->Yk
namespace Go.Proofs.YtcjhmiijbojgeaaGreatDoor
open S Go.RowKit
section
attribute [local irreducible] nMid
theorem Zaz (m:S.Mach)(d v:Int):(m.put d v).state=m.state:=by
 unfold S.Mach.put
 split <;> rfl
theorem Zsm (m:S.Mach)(i:Inst):(m.act i).1.state=m.state\/m.act i=({ m with state:=1,code:=m.rd i.a },m.place,0):=by
 unfold S.Mach.act
 extract_lets a b imm next at_
 split
 .split
  .exact .inl rfl
  .exact .inl (Zaz _ _ _)
 split
 .exact .inl (Zaz _ _ _)
 split
 .exact .inl (Zaz _ _ _)
 split
 .split
  .exact .inl (Zaz _ _ _)
  .exact .inl rfl
 split
 .split
  .exact .inl rfl
  .exact .inl rfl
 split
 .exact .inl rfl
 split
 .exact .inl (Zaz _ _ _)
 split
 .exact .inl (Zaz _ _ _)
 split
 .split
  .exact .inl (Zaz _ _ _)
  .exact .inl (Zaz _ _ _)
 split
 .exact .inl rfl
 .exact .inr rfl
theorem Zpi {m:S.Mach}(h0:m.state=0)(b:m.step.state=1):m.step.place=m.place/\m.step.mem=m.mem/\m.step.reg=m.reg/\m.step.code=m.rd (dec (m.mem.getD m.place.toNat 0)).a:=by
 have e:m.step=m.step:=rfl;unfold S.Mach.step at b⊢;rw[if_neg (by omega)] at b⊢
 split at b
 .exact absurd b (by show ¬(2:Int)=1;decide)
 rename_i c1
 rw[if_neg c1]
 split at b
 .exact absurd b (by show ¬(2:Int)=1;decide)
 rename_i c2
 rw[if_neg c2]
 split at b
 .exact absurd b (by show ¬(2:Int)=1;decide)
 rename_i c3
 rw[if_neg c3];rcases Zsm m (dec (m.mem.getD m.place.toNat 0)) with h|h
 .have:(m.act (dec (m.mem.getD m.place.toNat 0))).1.state=1:=b
  omega
 .rw[h]
  exact⟨rfl,rfl,rfl,rfl⟩
theorem Znt {m:S.Mach}(h0:m.state=0):∀j:Nat,(m.steps_ j).state=1->∃k,(m.steps_ k).state=0/\(m.steps_ k).step=m.steps_ j
 | 0,h=>by
  have:m.state=1:=h;omega
 | j+1,h=>by
  by_cases c:(m.steps_ j).state=0
  .exact⟨j,c,rfl⟩
  .have e:m.steps_ (j+1)=m.steps_ j:=by
    show(m.steps_ j).step=m.steps_ j
    unfold S.Mach.step;rw[if_pos c]
   rw[e] at h⊢;exact Znt h0 j h
theorem Zzi {I:Img}(hI:I.Ok){m:S.Mach}(h0:m.state=0){j:Nat}{V:Vw}{c:Int}(h:Off I (m.steps_ j) V c){i:Nat}{s:ByteArray}{w:Int}(a:I.i0<=i)(d:i<I.i1)(p:I.xs[i]?=some ⟨1,⟨36,0,0,0,0⟩,s,w⟩)(hp:(m.steps_ j).place=I.adr i):c=0:=by
 obtain⟨k,r,o⟩:=Znt h0 j h.end_;obtain⟨g,l,n,f⟩:=Zpi r (by rw[o];exact h.end_);rw[o] at g l n f;obtain⟨q,hg,hn⟩:=Zy hI a d p;have b:=h.code i a d 0 (wordOf ⟨36,0,0,0,0⟩) (by rw[q];rfl);rw[Nat.add_zero] at b;rw[<- g,<- l,hp,b] at f;have t:dec (wordOf ⟨36,0,0,0,0⟩)=⟨36,0,0,0,0⟩:=by
  have e:wordOf ⟨36,0,0,0,0⟩=enc ⟨36,0,0,0,0⟩:=by unfold wordOf;rw[if_pos hg]
  rw[e];exact(Zut hg).1
 rw[t] at f;have z:=h.ok.zero;rw[<- h.codeIs,f]
 show(m.steps_ k).reg.getD 0 0=0
 rw[<- n];exact z
end
section
attribute [local irreducible] midV
theorem Zzj (gw sw:List Int):tells (joined (wObjsV gw sw))=wTellsV:=by
 rw[Zbl,Zax,Zax,(Zgu gw sw).1,<- List.append_assoc];rfl
theorem Zdq {s:ByteArray}(h:(wTellsV.any λ t=>decide (t=s))=true):s∈wTellsV:=by
 obtain⟨t,a,b⟩:=List.any_eq_true.1 h;rw[<- of_decide_eq_true b];exact a
section
variable {gw sw F:List Int}{size:Int}
theorem Zck (hI:(wImgV true gw sw F size).Ok){s:ByteArray}(h:s∈wTellsV) :
 findP (placesTo (joined (wObjsV gw sw)) F 0 (joined (wObjsV gw sw)).length) s=some ((wImgV true gw sw F size).lab s)/\0<=(wImgV true gw sw F size).lab s/\(wImgV true gw sw F size).lab s<=67108864:=by
 obtain⟨j,x,a,b,d⟩:=Zh6 (Zzj gw sw ▸ h);subst d;have c:=Zcl hI (i:=j) a b;have e:=(Yg.1 a).1;refine⟨Zxb hI a b,?_,?_⟩
 .rw[c];exact Zmw hI j
 .rw[c];exact Zib hI (Nat.le_of_lt e)
theorem Zi8:kStub∈wTellsV:=Zdq (by kernel_rfl)
theorem Zsn (hI:∀b,(wImgV b gw sw F size).Ok){m:S.Mach}(h:WdV gw sw F size m){name:ByteArray}(i:name∈wTellsV){d:Int}{R:Int->BO->Nat->Prop}(hd:d<=256)
 (j:Real (wImgV true gw sw F size) name false (viewOf (m.setV 31 ((wImgV true gw sw F size).lab kStub))) d R) {N:Nat} {P:Vw->Prop}
 (f:∀ret o k,R ret o k->∃a,(o=.ret a\/o=.left ((wImgV true gw sw F size).lab kStub) a)/\k+1<=N/\P a) :
 ∃a,P a/\bj (wImgV true gw sw F size) (callM (wImgV true gw sw F size) m name N) a/\(callM (wImgV true gw sw F size) m name N).state=1/\(callM (wImgV true gw sw F size) m name N).place=(wImgV true gw sw F size).lab kStub/\(callM (wImgV true gw sw F size) m name N).rd 28=1056:=by
 obtain⟨_,g,n2⟩:=Zck (hI true) i;obtain⟨_,s1,s2⟩:=Zck (hI true) Zi8;have c:=Zz3 (hI true) h (name:=name) ⟨g,by omega⟩ ⟨s1,by omega⟩;have e:viewOf ((m.setV 31 ((wImgV true gw sw F size).lab kStub)).goV ((wImgV true gw sw F size).lab name))=viewOf (m.setV 31 ((wImgV true gw sw F size).lab kStub)):=by
  have h0:(m.setV 31 ((wImgV true gw sw F size).lab kStub)).state=0:=by
   rw[Zai (by decide) (by decide)];exact h.run
  unfold S.Mach.goV;rw[if_neg (by rw[h0];decide)];rfl
 exact Zxa hI c hd (by rw[e];exact j) f
theorem Zwl (b:Bool)(hI:∀b,(wImgV b gw sw F size).Ok){x:Int}(h0:0<=x)(d:x<size)(h2:x<1056\/1312<=x)(h3:x<1312+gw.length+sw.length\/(wImgV true gw sw F size).lab kEnd<=x):Dat (wImgV b gw sw F size) x:=by
 have he:=Zas (hI true);have c:¬(wImgV true gw sw F size).code x:=λ q=>by
  have:=(Zbm (hI true)).1 q;omega
 have e1:(wImgV b gw sw F size).lo=1056:=rfl;have e2:(wImgV b gw sw F size).hi=1312:=rfl;refine⟨h0,d,λ q=>?_,λ q=>c ?_⟩
 .have:=q.1
  have:=q.2;omega
 .cases b with
  | true=>exact q
  | false =>
   have a:=Zci (hI true) (i:=2+gw.length+sw.length) (j:=gw.length+sw.length+8) (by omega);exact⟨Int.le_trans a q.1,q.2⟩
theorem Zwm (b:Bool)(hI:∀b,(wImgV b gw sw F size).Ok){half fr to_ r26:Int}(h:Hv size ((wImgV true gw sw F size).lab kEnd) half fr to_){O:List Ob}
 (a:(∀o∈O,ObOk o/\fr<=o.at_/\o.at_+o.ws.length<=r26)/\(∀o∈O,∀o'∈O,o≠o'->o.at_+o.ws.length<=o'.at_\/o'.at_+o'.ws.length<=o.at_)/\O.Nodup) (hr:r26<=fr+half) (i:tot O<=half):Cf.Ok (wImgV b gw sw F size) ⟨O,fr,to_,half⟩:=by
 have he:=Zas (hI true);have f:=(hI true).size2;have hsz:(wImgV true gw sw F size).size=size:=rfl;obtain⟨v1,g,v3⟩:=h;refine⟨λ x (e:fr<=x) (c:x<fr+half)=>Zwl b hI (by omega) (by omega) (by omega) (by omega),λ x (e:to_<=x) (c:x<to_+half)=>Zwl b hI (by omega) (by omega) (by omega) (by omega),?_,?_,?_,g,?_,?_,λ x e c=>Zwl b hI e (by omega) (.inl c) (by omega),λ o d=>⟨(a.1 o d).1,(a.1 o d).2.1,?_⟩,a.2.1,a.2.2,i⟩
 .show fr+half<=to_\/to_+half<=fr;omega
 .show 1312<=fr;omega
 .show 1312<=to_;omega
 .show fr+half<=335544320;omega
 .show to_+half<=335544320;omega
 .have:=(a.1 o d).2.2
  show o.at_+(o.ws.length:Int)<=fr+half
  omega
theorem Zwn (b:Bool):∃i,Seg (wImgV b gw sw F size) kMove i (bItems rMove):=Zjh (j:=2) (r:=rMove) rfl
theorem Zwo (b:Bool):∃i,Seg (wImgV b gw sw F size) kScan i (bItems rScan):=Zjh (j:=3) (r:=rScan) rfl
theorem Zso (b:Bool):∃i,Seg (wImgV b gw sw F size) kFrame i (bItems rFrame):=Zjh (j:=4) (r:=rFrame) rfl
theorem Znu (b:Bool):∃i,Seg (wImgV b gw sw F size) kCollect i (bItems rCollect):=Zjh (j:=5) (r:=rCollect) rfl
theorem Znv (b:Bool):∃i,Seg (wImgV b gw sw F size) kReserve i (bItems rReserve):=Zjh (j:=6) (r:=rReserve) rfl
theorem Zwp (b:Bool):∃i,Seg (wImgV b gw sw F size) kCons i (bItems rCons):=Zjh (j:=7) (r:=rCons) rfl
end
end
section
attribute [local irreducible] midV
def S.callP (I:Img)(m:S.Mach)(name:ByteArray)(N:Nat):S.Mach:=((m.setV 31 (I.lab kMapped)).goV (I.lab name)).steps_ N
section
variable {gw sw F:List Int}{size:Int}
theorem Znw (hI:(wImgV true gw sw F size).Ok){m:S.Mach}(h:WdV gw sw F size m){name:ByteArray}(X:name∈wTellsV){d:Int}{R:BO->Nat->Prop}(hd:d<=256)
 (O:aj (wImgV true gw sw F size) name true (viewOf (m.setV 31 ((wImgV true gw sw F size).lab kMapped))) d ((wImgV true gw sw F size).lab kMapped) R) {N:Nat}
 (W:∀o k,R o k->k+1<=N) (U:∀t st k,¬R (.left t st) k) (h0:∀c st k,R (.halt c st) k->c≠0) :
 (callP (wImgV true gw sw F size) m name N).state=1 /\
 ((∃f k,R (.ret f) k/\bj (wImgV true gw sw F size) (callP (wImgV true gw sw F size) m name N) f/\(callP (wImgV true gw sw F size) m name N).place=(wImgV true gw sw F size).lab kMapped+1/\(callP (wImgV true gw sw F size) m name N).rd 28=1056/\(callP (wImgV true gw sw F size) m name N).out=f.out)\/(∃f k c,R (.halt c f) k/\(callP (wImgV true gw sw F size) m name N).code=c/\(callP (wImgV true gw sw F size) m name N).place≠(wImgV true gw sw F size).lab kMapped+1)):=by
 obtain⟨_,K,P⟩:=Zck hI X;obtain⟨l1,l2,l3,l4,l5,L,l7⟩:=Zah hI;obtain⟨e1,e2⟩:=Zas hI;have w:=hI.size2;have hsz:(wImgV true gw sw F size).size=size:=rfl;have b:=Zd7 hI h (i:=31) (v:=(wImgV true gw sw F size).lab kMapped) (by decide) (λ h=>absurd h (by decide)) (by omega);have s:(m.setV 31 ((wImgV true gw sw F size).lab kMapped)).state=0:=b.run;have y:(m.setV 31 ((wImgV true gw sw F size).lab kMapped)).goV ((wImgV true gw sw F size).lab name)={ (m.setV 31 ((wImgV true gw sw F size).lab kMapped)) with place:=(wImgV true gw sw F size).lab name }:=by
  unfold S.Mach.goV;rw[if_neg (by rw[s];decide)]
 have p:callP (wImgV true gw sw F size) m name N=((m.setV 31 ((wImgV true gw sw F size).lab kMapped)).goV ((wImgV true gw sw F size).lab name)).steps_ N:=rfl;rw[p,y];clear p y;have r31:(m.setV 31 ((wImgV true gw sw F size).lab kMapped)).rd 31=(wImgV true gw sw F size).lab kMapped:=by
  rw[Zby h.ok (by decide) (by decide),if_pos rfl]
 obtain⟨z,E⟩:=Yx (m.setV 31 ((wImgV true gw sw F size).lab kMapped));rw[<- E] at b s r31 O⊢;have r:On (wImgV true gw sw F size) { z with place:=(wImgV true gw sw F size).lab name } (viewOf z) ((wImgV true gw sw F size).lab name) :=
  ⟨placed b.ok ⟨K,by omega⟩,b.run,b.len,b.code,rfl,λ _ _ _ _=>rfl,λ _ _ _=>rfl,rfl,rfl⟩
 obtain⟨o,k,q,l⟩:=O (viewOf z) 1056 (Mt.refl_ (viewOf z)) b.r28 r31 (by omega) (by omega) (Int.le_refl _) (by show 1056+d<=1312;omega);have a0:=W o k q;have B:(wImgV true gw sw F size).xs[2+gw.length+sw.length+4]?=some (bW 0):=Z8 (Zk6 (k:=4));have H:(wImgV true gw sw F size).xs[2+gw.length+sw.length+5]?=some ⟨1,⟨36,0,0,0,0⟩,bNo,0⟩:=Z8 (Zk6 (k:=5));have i0:(wImgV true gw sw F size).i0=2+gw.length+sw.length:=rfl;have i1:(wImgV true gw sw F size).i1=gw.length+sw.length+8+midV.length:=rfl;have Z:(wImgV true gw sw F size).adr (2+gw.length+sw.length+5)=(wImgV true gw sw F size).adr (2+gw.length+sw.length+4)+1:=Zx hI B;obtain⟨I,G⟩:=Yx (wImgV true gw sw F size);rw[<- G] at hI r l4 L Z B H i0 i1 l K P hsz w⊢;obtain⟨m1,C⟩:∃m1:S.Mach,m1={ z with place:=I.lab name }:=⟨_,rfl⟩
 rw[<- C] at r⊢;have more:∀(j:Nat),j<=N->(m1.steps_ j).state≠0->m1.steps_ N=m1.steps_ j:=λ j M J=>by
  obtain⟨x,Q⟩:∃x,N=j+x:=⟨N-j,by omega⟩
  rw[Q,Za4,Ze4 J]
 cases o with
 | ret f =>
  obtain⟨V',g,u,A,_⟩:=l;obtain⟨j,M,n⟩:=g _ r;have Y:V'.mem (I.lab kMapped)=0:=by
   rw[<- n.mem (I.lab kMapped) (by omega) (by omega)];have T:(wordsAt I.xs I.F 0 (2+gw.length+sw.length+4))[0]?=some 0:=by
    unfold wordsAt;rw[B]
    show(wordsOf (bW 0) _ _ _)[0]?=some 0
    rw[Zh0];rfl
   have:=n.code (2+gw.length+sw.length+4) (by omega) (by omega) 0 0 T;rw[L,Nat.add_zero,<- l4] at this;exact this
  have V:backTo true V' (I.lab kMapped)=I.lab kMapped+1:=by
   unfold backTo;rw[if_pos rfl,Y];unfold u32m;omega
  rw[V,show I.lab kMapped+1=I.adr (2+gw.length+sw.length+5) by omega] at n;obtain⟨a,D⟩:=Zt6 hI (by omega) (by omega) H n;have e:m1.steps_ N=(m1.steps_ j).steps_ 1:=by
   rw[<- Za4];refine more _ (by omega) ?_;rw[Za4,a.end_]
   decide
  rw[e];exact⟨a.end_,.inl ⟨f,k,q,Zp2 a u,by rw[D];omega,by rw[a.reg 28 (by decide) (by decide) (by decide)];exact A,a.out.trans u.out⟩⟩
 | halt c f =>
  obtain⟨V',g,u⟩:=l;obtain⟨j,M,a⟩:=g _ r;have e:m1.steps_ N=m1.steps_ j:=more _ (by omega) (by rw[a.end_];decide);rw[e];refine⟨a.end_,.inr ⟨f,k,c,q,a.codeIs,λ hp=>?_⟩⟩;refine h0 c f k q ?_;exact Zzi hI r.run a (i:=2+gw.length+sw.length+5) (by omega) (by omega) H (hp.trans (by omega))
 | left t st=>exact absurd q (U t st k)
def S.ax (m2:S.Mach)(en:Int):Int:=if m2.state≠1 then -1 else if m2.place=en then 0 else 1+m2.code
end
end
section
attribute [local irreducible] midV
namespace S
def putsV (m:Mach)(a:Int):List Int->Mach
 | []=>m
 | x::r=>putsV (m.putV a x) (a+1) r
def takeM (m:Mach)(typ:Int)(ws:List Int):Mach:=(putsV m (m.rd 26) ((32*ws.length+4*typ+3)::ws)).setV 26 (m.rd 26+1+ws.length)
def setsV (m:Mach)(i:Int):List Int->Mach
 | []=>m
 | x::r=>setsV (m.setV i x) (i+1) r
def kPrims:List Int:=[16,17,21,25,27,37,38,39]
end S
theorem Zsp {gw sw F:List Int}{size:Int}{j:Nat}{r:BR}(h:rs28[j]?=some r):∃i,Seg (wImgV true gw sw F size) r.name i (bItems r):=by
 refine Zjh (j:=15+j) ?_;have a:objs26.length=15:=by decide
 have hj:=(Yg.1 h).1;have hl:objs28.length=rs28.length:=by unfold objs28;rw[List.length_map]
 rw[List.getElem?_append_left (by rw[List.length_append];omega),List.getElem?_append_right (by omega),a,Nat.add_sub_cancel_left]
 show(rs28.map ofR)[j]?=_
 rw[List.getElem?_map,h];rfl
theorem Z58 (gw sw F:List Int)(size:Int)(hI:(wImgV true gw sw F size).Ok):VSegs (wImgV true gw sw F size) :=
 ⟨hI,Zsp (j:=0) (r:=vIs) rfl,Zsp (j:=1) (r:=vIsInt) rfl,Zsp (j:=2) (r:=vIndex) rfl,Zsp (j:=3) (r:=vAlike) rfl,Znv true,Zwp true⟩
section
variable {gw sw F:List Int}{size:Int}
theorem Z8b:∃i,Seg (wImgV true gw sw F size) (kRt 27) i (bItems (vMakes 27 1)):=Zsp (j:=31) (r:=vMakes 27 1) rfl
end
theorem has_rtsV:kRt 16∈wTellsV/\kRt 17∈wTellsV/\kRt 21∈wTellsV/\kRt 25∈wTellsV/\kRt 27∈wTellsV/\kRt 37∈wTellsV/\kRt 38∈wTellsV/\kRt 39∈wTellsV :=
 ⟨Zdq (by kernel_rfl),Zdq (by kernel_rfl),Zdq (by kernel_rfl),Zdq (by kernel_rfl),Zdq (by kernel_rfl),Zdq (by kernel_rfl),Zdq (by kernel_rfl),Zdq (by kernel_rfl)⟩
section
variable {gw sw F:List Int}{size:Int}(hI:(wImgV true gw sw F size).Ok)
include hI
theorem Zqq:∀(l:List Int)(m:S.Mach)(n:Int),WdV gw sw F size m->(∀x∈l,0<=x/\x<=4294967295)->(wImgV true gw sw F size).lab kEnd<=n->n+l.length<=size ->
 WdV gw sw F size (S.putsV m n l)/\(∀j,(S.putsV m n l).rd j=m.rd j)/\(S.putsV m n l).input=m.input/\∀c,0<=c->(S.putsV m n l).mv c=if n<=c/\c<n+l.length then l.getD (c-n).toNat 0 else m.mv c
 | [],m,n,h1,_,_,_=>⟨h1,λ _=>rfl,rfl,λ c _=>by
  rw[if_neg (by simp only[List.length_nil];omega)];rfl⟩
 | y::r,m,n,h1,hw,ht,hs=>by
  rw[Yk] at hs;have h:=hw y List.mem_cons_self;have he:=Zas hI;obtain⟨e1,e2,e,e4,e5,e6,e7⟩:=Zbi m n y;have b:¬(wImgV true gw sw F size).code n:=λ q=>by
   have:=(Zbm hI).1 q;omega
  have hl:=h1.len;obtain⟨d,g,i,k⟩:=Zqq r (m.putV n y) (n+1) (Zgo hI h1 ⟨by omega,by omega⟩ b h) (λ x f=>hw x (List.mem_cons_of_mem _ f)) (by omega) (by omega);refine⟨d,λ j=>(g j).trans (Zdz m n y j),i.trans e,λ c a=>?_⟩
  show(S.putsV (m.putV n y) (n+1) r).mv c=_
  rw[k c a,Ze2 (by omega) (by omega) a,Yk];by_cases c1:c=n
  .rw[if_neg (by omega),if_pos c1,if_pos (by omega),show(c-n).toNat=0 by omega]
   rfl
  .by_cases c2:n+1<=c/\c<n+1+r.length
   .rw[if_pos c2,if_pos (by omega),show(c-n).toNat=(c-(n+1)).toNat+1 by omega]
    rfl
   .rw[if_neg c2,if_neg c1,if_neg (by omega)]
theorem Zly {m:S.Mach}{H typ:Int}{ws:List Int}(h:WdV gw sw F size m)(n:∀x∈ws,0<=x/\x<=4294967295)(i:m.rd 26=H)(ht:0<=typ/\typ<8)(hl:ws.length<=1000000)(o:(wImgV true gw sw F size).lab kEnd<=H)(h2:H+1+ws.length<=size) :
 WdV gw sw F size (S.takeM m typ ws)/\(∀j,(S.takeM m typ ws).rd j=if j=26 then H+1+ws.length else m.rd j)/\(S.takeM m typ ws).input=m.input/\(S.takeM m typ ws).mv H=32*ws.length+4*typ+3/\(∀k:Nat,k<ws.length->(S.takeM m typ ws).mv (H+1+k)=ws.getD k 0)/\(∀c,0<=c->c<H\/H+1+ws.length<=c->(S.takeM m typ ws).mv c=m.mv c):=by
 have g:=hI.size2;have hsz:(wImgV true gw sw F size).size=size:=rfl;have he:=Zas hI;obtain⟨f,l,p,d⟩:=Zqq hI ((32*ws.length+4*typ+3)::ws) m H h (λ x b=>by
  rcases List.mem_cons.1 b with rfl|b
  .omega
  .exact n x b) o (by rw[Yk];omega)
 have e:S.takeM m typ ws=(S.putsV m H ((32*ws.length+4*typ+3)::ws)).setV 26 (H+1+ws.length):=by unfold S.takeM;rw[i]
 rw[e];refine⟨Zd7 hI f (by decide) (λ h=>absurd h (by decide)) (by omega),λ j=>?_,?_,?_,λ k hk=>?_,λ c a hc=>?_⟩
 .rw[Zby f.ok (by decide) (by decide)]
  by_cases c:j=26
  .rw[if_pos c,if_pos c]
  .rw[if_neg c,if_neg c];exact l j
 .rw[Zai (by decide) (by decide)];exact p
 .rw[Zcn (by decide) (by decide),d H (by omega),if_pos (by rw[Yk];omega),Int.sub_self]
  rfl
 .rw[Zcn (by decide) (by decide),d _ (by omega),if_pos (by rw[Yk];omega),show(H+1+(k:Int)-H).toNat=k+1 by omega]
  rfl
 .rw[Zcn (by decide) (by decide),d c a,if_neg (by rw[Yk];omega)]
theorem Zqr {m:S.Mach}(h:WdV gw sw F size m)(v:Int):(∀j,j≠31->(viewOf (m.setV 31 v)).reg j=m.rd j)/\(viewOf (m.setV 31 v)).mem=m.mv/\(viewOf (m.setV 31 v)).inp=m.input/\(viewOf (m.setV 31 v)).out=m.out:=by
 refine⟨λ j b=>?_,?_,?_,?_⟩
 .show(m.setV 31 v).rd j=_
  rw[Zby h.ok (by decide) (by decide),if_neg b]
 .funext a
  show(m.setV 31 v).mv a=_
  rw[Zcn (by decide) (by decide)]
 .show(m.setV 31 v).input=_
  rw[Zai (by decide) (by decide)]
 .show(m.setV 31 v).out=_
  rw[Zai (by decide) (by decide)]
theorem Z2z {m:S.Mach}(h:WdV gw sw F size m){H half:Int}(w:m.rd 4=8)(v:m.rd 5=22)(l:m.rd 26=H)(g:m.rd 27=H+half)(K:m.mv 7=0)(hH:(wImgV true gw sw F size).lab kEnd<=H)(hh:3<=half)(hsz:H+half<=size){N:Nat}(hN:4000<=N) :
 ax (callP (wImgV true gw sw F size) m (kRt 27) N) ((wImgV true gw sw F size).lab kMapped+1)=0/\(callP (wImgV true gw sw F size) m (kRt 27) N).rd 4=4*H+1/\(callP (wImgV true gw sw F size) m (kRt 27) N).mv H=71/\(callP (wImgV true gw sw F size) m (kRt 27) N).mv (H+1)=22/\(callP (wImgV true gw sw F size) m (kRt 27) N).mv (H+2)=22:=by
 obtain⟨f,G,v3,v4⟩:=Zqr hI h ((wImgV true gw sw F size).lab kMapped);obtain⟨i0,I⟩:=Z8b (gw:=gw) (sw:=sw) (F:=F) (size:=size);have he:=Zas hI;have C:=Zah hI;have A:=hI.size2;have u:(wImgV true gw sw F size).size=size:=rfl;have dat:∀a,0<=a->a<size->(a<1056\/H<=a)->Dat (wImgV true gw sw F size) a:=λ a a0 r a2=>⟨a0,r,λ q=>by
  have q0:=q.1;have y:=q.2;have e1:(wImgV true gw sw F size).lo=1056:=rfl;have B:(wImgV true gw sw F size).hi=1312:=rfl;omega,λ q=>by
  have:=(Zbm hI).1 q;omega⟩
 have E:=Zs1 (Z58 gw sw F size hI) I (ret:=(wImgV true gw sw F size).lab kMapped) (H:=H) (x:=22) (n:=2) (by decide) ((f 4 (by decide)).trans w) ((f 5 (by decide)).trans v)
  ⟨λ x s J=>dat x s (by omega) (.inl J),(f 26 (by decide)).trans l,by rw[f 27 (by decide),g];show H+3<=_;omega,by rw[f 27 (by decide),g];omega,by omega,by rw[G];exact K,λ a a0 r=>dat a (by omega) (by omega) (.inr a0)⟩ (by have:=C.2.2.2.1;omega) (by omega)
 obtain⟨D,z⟩:=Znw hI h has_rtsV.2.2.2.2.1 (by decide) E (N:=N) (λ o k i=>by have:=i.1;omega) (λ t st k i=>by obtain⟨_,d,e,_⟩:=i;cases e) (λ c st k i=>by obtain⟨_,d,e,_⟩:=i;cases e);rcases z with⟨d,k,p,j,hp,_,ho⟩|⟨d,k,c,p,_⟩
 .obtain⟨_,st2,e,q4,qH,qa⟩:=p
  cases e
  have b:∀a,H<=a->¬(wImgV true gw sw F size).stk a:=λ a ha q=>by
   have y:=q.2;have B:(wImgV true gw sw F size).hi=1312:=rfl;omega
  refine⟨?_,(j.reg 4 (by decide)).trans q4,?_,?_,?_⟩
  .unfold ax
   rw[if_neg (λ q=>q D),if_pos hp]
  .rw[j.mem H (by omega) (by omega) (b _ (by omega)),qH]
   rfl
  .rw[j.mem (H+1) (by omega) (by omega) (b _ (by omega))]
   exact qa _ (by omega) (by omega)
  .rw[j.mem (H+2) (by omega) (by omega) (b _ (by omega))]
   exact qa _ (by omega) (by omega)
 .obtain⟨_,st2,e,_⟩:=p
  cases e
end
end
