/- Parts. -/
import Derived.Test.YtcjhmiijbojgeaaGreatDoorZOwnB
import Derived.Test.YtcjhmiijbojgeaaGreatDoorZIsaB
import Derived.StillTailTactics
set_option linter.all false
set_option maxHeartbeats 16000000
open Nat renaming le_refl->Yc,lt_of_not_le->Ybv
open List renaming getElem?_eq_some_iff->Yg,length_cons->Yk,getElem?_append_left->Yn,getElem?_append_right->Yo,all_eq_true->Ya2,getElem?_drop->Ybu,range->Yb7,mem_range->Ycr,filterMap_cons->Ydb
open Bool renaming and_eq_true->Yq,or_eq_true->Ybt
open Go.Region renaming wanted->Yak,ready->Yay,binds->Ybn,Mode->Yby,waitsFor_spec->Yb6,noSelect->Yck,chainB->Yco,noSelect_spec->Yc7
open Array renaming replicate->Ya9,setIfInBounds_comm->Yct
namespace Go.Proofs.YtcjhmiijbojgeaaGreatDoor
open S Go.Proofs.Tryz Go.RowKit
theorem Zh1 {xs:List S.Item}{F:List Int}{base:Int}(hd:¬Dup xs):∀(n q:Nat)(s:ByteArray)(v:Int),(placesTo xs F base n)[q]?=some (s,v) ->
 ∃j:Nat,stands xs s=j/\v=addr xs F base j/\j<n
 | 0,q,s,v,h=>by simp[placesTo] at h
 | n+1,q,s,v,h=>by
  rw[placesTo] at h;by_cases c:q<(placesTo xs F base n).length
  .rw[Yn c] at h
   obtain⟨j,b,a,h3⟩:=Zh1 hd n q s v h;exact⟨j,b,a,by omega⟩
  .rw[Yo (by omega)] at h
   unfold placeAt at h
   cases hx:xs[n]? with
   | none=>simp[hx] at h
   | some x =>
    simp only[hx] at h
    split at h
    .rename_i hk
     have h0:q-(placesTo xs F base n).length=0:=by
      have:=(Yg.1 h).1;simp at this;omega
     rw[h0] at h;simp only[List.getElem?_cons_zero,Option.some.injEq,Prod.mk.injEq] at h;refine⟨n,?_,h.2.symm,by omega⟩;rw[<- h.1];by_cases e:stands xs x.label=n
     .exact e
     .exact absurd ⟨n,x,hx,hk,e⟩ hd
    .simp at h
theorem Zj2 {xs:List S.Item}{F:List Int}{base:Int}{j:Nat}{s:ByteArray}(f:stands xs s=j):∀n:Nat,j<n->∃q:Nat,(placesTo xs F base n)[q]?=some (s,addr xs F base j)
 | 0,h=>by omega
 | n+1,h=>by
  rw[placesTo];by_cases d:j<n
  .obtain⟨q,hq⟩:=Zj2 f n d
   refine⟨q,?_⟩;rw[Yn (Yg.1 hq).1];exact hq
  .have e:j=n:=by omega
   subst e;rcases Zaj xs s with⟨g,_⟩|⟨i,y,g,b,a,c,_⟩
   .omega
   .have:i=j:=by omega
    subst this;refine⟨(placesTo xs F base i).length,?_⟩;rw[Yo (by omega),Nat.sub_self];simp[placeAt,b,a,c]
namespace S
structure Obj where
 name:ByteArray
 items:List Item
def ownB (s:ByteArray):Bool:=s.data.toList.head?==some 46
def owned (n s:ByteArray):ByteArray:=if ownB s=true then n++s else s
def ownItem (n:ByteArray)(x:Item):Item:=⟨x.kind,x.inst,owned n x.label,x.word⟩
def itemsOf (o:Obj):List Item:=o.items.map (ownItem o.name)
def joined (os:List Obj):List Item:=os.flatMap itemsOf
def DupN (os:List Obj):Prop:=∃i j:Nat,∃a b:Obj,j<i/\os[i]?=some a/\os[j]?=some b/\a.name=b.name
def badN (o:Obj):Bool:=o.name.data.toList.isEmpty || ownB o.name
def NamesRes (os:List Obj)(r:Int):Prop:=(DupN os/\r=14)\/(¬DupN os/\(∃o∈os,badN o=true)/\r=2)\/(¬DupN os/\(∀o∈os,badN o=false)/\r=0)
def findP:List (ByteArray×Int)->ByteArray->Option Int
 | [],_=>none
 | p::r,s=>if p.1=s then some p.2 else findP r s
end S
theorem Zmm {os:List S.Obj}{r t:Int}(h:S.NamesRes os r)(k:S.NamesRes os t):r=t:=by
 rcases h with⟨a,rfl⟩|⟨a,⟨o,c,b⟩,rfl⟩|⟨a,d,rfl⟩
 .rcases k with⟨k1,rfl⟩|⟨k1,_⟩|⟨k1,_⟩
  .rfl
  .exact absurd a k1
  .exact absurd a k1
 .rcases k with⟨k1,rfl⟩|⟨k1,_,rfl⟩|⟨k1,k2,rfl⟩
  .exact absurd k1 a
  .rfl
  .rw[k2 o c] at b;cases b
 .rcases k with⟨k1,rfl⟩|⟨k1,⟨o,c,b⟩,rfl⟩|⟨k1,k2,rfl⟩
  .exact absurd k1 a
  .rw[d o c] at b;cases b
  .rfl
theorem Zri (n s:ByteArray):(S.owned n s).size<=n.size+s.size:=by
 unfold S.owned
 split
 .simp[ByteArray.size_append]
 .omega
section
def Ext (w:World):={w':World // Below w.heap.size w w'}
instance extNonempty (w:World):Nonempty (Ext w):=⟨⟨w,Below.refl _ _⟩⟩
theorem Zk (w:World):(∀(x:Ext w)(b o:Nat),b<w.heap.size->x.val.cell? ⟨b,o,none⟩=w.cell? ⟨b,o,none⟩):=λ x b o h=>x.property.cell (p:=⟨b,o,none⟩) h
theorem Zp3 (w:World)(x:Ext w):w.heap.size<=x.val.heap.size:=x.property.size
theorem Zdm {P:Program}{f:FuncId}{args:Array Value}{w:World}{x:Ext w}{v:Value}(h:Calls P f args x.val λ e w'=>e=.returned v/\Below x.val.heap.size x.val w') :
 Calls P f args x.val λ e a=>e=.returned v/\∃y:Ext w,a=y.val :=
 h.mono λ _ a ⟨b,hm⟩=>⟨b,⟨a,x.property.trans (hm.mono x.property.size)⟩,rfl⟩
theorem Zb0 {P:Program}{f:FuncId}{args:Array Value}{w:World}{x:Ext w}{v:Value}(h:Calls P f args x.val λ e w'=>e=.returned v/\x.val=w') :
 Calls P f args x.val λ e a=>e=.returned v/\∃y:Ext w,a=y.val :=
 h.mono λ _ a ⟨b,hm⟩=>⟨b,x,hm.symm⟩
theorem Zfh (w:World):Below w.heap.size w { w with drawn:=w.drawn+1 }:=⟨rfl,rfl,rfl,Yc _,λ _ _=>rfl⟩
theorem Zq {P:Program}{id:Nat}{Q:Exit->Act->World->Prop}{a:Act}{w:World}{l:List Oper}(hm:P.follows .mixedOrders=true)(c:Region.lexB .any l.toArray=true)
 (h:wpQuiet P l.toArray (λ w'=>∃x:Ext w,w'=x.val) (λ b=>∀w',(∃x:Ext w,w'=x.val)->Q .normal b w') l a):(Code.region id l.toArray true).wp P Q a w :=
 wp_region_quiet (C:=λ w'=>∃x:Ext w,w'=x.val) hm c ⟨⟨_,Zfh w⟩,rfl⟩ (by simpa using h)
section
variable {P:Program}{ops:Array Oper}{md:Yby}{C:World->Prop}
def Zb1 (P:Program)(md:Yby)(ops:Array Oper)(C:World->Prop)(n:Nat)(L:Array Bool->Act->Prop):Nat->Array Bool->Act->Prop
 | 0,listed,a=>L listed a
 | f+1,listed,a=>Yay md ops listed≠[]/\∀i∈Yay md ops listed,i<n/\qOp P ops C i (Zb1 P md ops C n L f (listed.setIfInBounds i true)) a
theorem Zbp {n g:Nat}{L:Array Bool->Act->Prop}{Q':Exit->Act->World->Prop}(d:∀b a w,C w->L b a->wpAny P md ops Q' g b a w) :
 ∀(f:Nat)(b:Array Bool)(a:Act)(w:World),C w->Zb1 P md ops C n L f b a->wpAny P md ops Q' (f+g) b a w
 | 0,_,_,_,hw,h=>by rw[Nat.zero_add];exact d _ _ _ hw h
 | f+1,b,a,w,hw,h=>by
  have e:f+1+g=(f+g)+1:=by omega
  rw[e];exact⟨λ h0=>absurd h0 h.1,λ i hi=>wpOp_of_qOp hw (λ j w' c k=>Zbp d f _ j w' c k) (h.2 i hi).2⟩
theorem Zk7 {n i:Nat}{z:Oper}{v:Value}{L:Array Bool->Act->Prop}(hi:ops[i]?=some z)(s:∀(j:Nat)(o:Oper) cs b,ops[j]?=some o->o.op≠.select cs b)
 (R:Region.sinkB md ops n=true) (N:Yco md ops n=true) (Q:n<ops.size) (F:i<n) (u:∀c a,L c a->∀j∈Yay md ops c,n<=j) :
 ∀(f:Nat)(c:Array Bool)(a:Act),HeadInv md ops n c ->
  (∀j w,ops[j]?=some w->j≠i->c.getD j true=false->(∀e∈w.after,Ybn md e=true->e.on≠i)->z.apart ops w=true) ->
  i∈Yay md ops c->YieldsIn P ops C z v a ->
  Zb1 P md ops C n L f (c.setIfInBounds i true) (a.put z.dst v)->Zb1 P md ops C n L (f+1) c a:=by
 intro f
 induction f with
 | zero =>
  intro c a q _ t I H;have l:=(mem_ready.1 t).1;refine⟨λ h=>(by rw[h] at t;cases t),λ j x=>?_⟩;have p:j<n:=Ybv λ h=>absurd x (tail_waits R N Q q _ i rfl F l j h)
  refine⟨p,?_⟩;by_cases d:j=i
  .subst d;exact I.qOp hi H
  .exact absurd (u _ _ H j (ready_mono x d)) (by omega)
 | succ f ih =>
  intro c a q g t I H;have l:=(mem_ready.1 t).1;refine⟨λ h=>(by rw[h] at t;cases t),λ j x=>?_⟩;have p:j<n:=Ybv λ h=>absurd x (tail_waits R N Q q _ i rfl F l j h)
  refine⟨p,?_⟩;by_cases d:j=i
  .subst d;exact I.qOp hi H
  .have G:=(H.2 j (ready_mono x d)).2
   obtain⟨r,w,y,B⟩:=mem_ready.1 x;have A:∀e∈w.after,Ybn md e=true->e.on≠i:=λ e V W K=>by
    have G:=B e V W;rw[K,getD_both l] at G
    cases G
   have T:=qOp_put y (g j w y d r A) (λ cs b=>s i z cs b hi) (λ cs b=>s j w cs b y) I G;have m:∀k ok,ops[k]?=some ok->k≠i->(c.setIfInBounds j true).getD k true=false ->
    (∀e∈ok.after,Ybn md e=true->e.on≠i)->z.apart ops ok=true:=λ k ok X J D M=>by
    refine g k ok X J ?_ M;by_cases E:j=k
    .subst E;exact r
    .rw[getD_set_ne true E] at D;exact D
   refine qOp_mono (λ U O=>ih (c.setIfInBounds j true) U (q.set x p) m (ready_mono t (Ne.symm d)) O.1 ?_) T;rw[Yct _ _ d];exact O.2
theorem Zh2 {n g:Nat}{i:Act->Prop}(d:Yck ops=true)(t:Region.sinkB md ops n=true)(q:Yco md ops n=true)(s:n<ops.size) :
 ∀(l:List Oper)(k:Nat)(b:Array Bool)(a:Act),(∀j,j<l.length->l[j]?=ops[k+j]?)->k+l.length=n->HeadInv md ops n b ->
 Region.lexHead md ops g l.length k b=true->wpQuiet P ops C i l a ->
 Zb1 P md ops C n (λ c r=>Region.seqB md ops g n c=true/\i r) l.length b a
 | [],k,b,a,_,hk,_,hB,h=>by
  have:k=n:=by simpa using hk
  subst this;exact⟨by simpa[Region.lexHead] using hB,h⟩
 | o::l,k,b,a,hl,hk,inv,hB,h=>by
  have h0:ops[k]?=some o:=by simpa using (hl 0 (by simp)).symm
  simp only[Yk,Region.lexHead,Yq] at hB;obtain⟨⟨y,hf⟩,m⟩:=hB;have e:k<n:=by simp only[Yk] at hk;omega
  have f:k∈Yay md ops b:=by simpa using y
  have p:qOp P ops C k (wpQuiet P ops C i l) a:=by unfold qOp;simp only[h0];exact h
  obtain⟨v,x,u⟩:=yieldsIn_of_qOp h0 p;exact Zk7 h0 (Yc7 d) t q s e (λ c r w=>seqB_ready w.1) l.length b a inv (Region.free_spec h0 hf) f x
   (Zh2 d t q s l (k+1) _ _ (λ j hj=>by have:=hl (j+1) (by simp;omega);simpa[Nat.add_assoc,Nat.add_comm 1 j] using this) (by simp only[Yk] at hk;omega) (inv.set f e) m u)
end
theorem Zj {P:Program}{id:Nat}{Q:Exit->Act->World->Prop}{a:Act}{w:World}{l:List Oper}(n:Nat)(hm:P.follows .mixedOrders=true)(s:Region.lexTailB .any l.toArray n=true)
 (h:wpQuiet P l.toArray (λ w'=>∃x:Ext w,w'=x.val) (λ p=>∀w',(∃x:Ext w,w'=x.val)->wpList P l.toArray Q (l.drop n) p w') (l.take n) a):(Code.region id l.toArray true).wp P Q a w:=by
 simp only[Region.lexTailB,Yq,decide_eq_true_eq] at s;obtain⟨⟨⟨⟨k,u⟩,E⟩,z⟩,f⟩:=s;have D:n<l.length:=by simpa using u
 have b:(l.take n).length=n:=by simp;omega
 have d:(l.drop n).length=l.toArray.size-n:=by simp
 have i:HeadInv .any l.toArray n (Ya9 l.toArray.size false) :=
  ⟨by simp,λ j oj _ y=>(by rw[getD_replicate_false] at y;cases y),λ t _ A=>getD_in (by simpa using A) (getD_replicate_false _ _)⟩
 have H:=Zh2 (md:=.any) (g:=l.toArray.size-n) k E z u (l.take n) 0 _ a (λ j v=>by
  have m:j<n:=by rw[b] at v;exact v
  simp[m]) (by simpa using b) i (by rw[b];exact f) h
 refine wp_region_any hm ?_;have r:=Zbp (Q':=Q) (g:=l.toArray.size-n) (λ c p w' o q=>by
  have B:=wpAny_of_seq (md:=.any) (Q':=Q) (l.drop n) n c p w' (λ j=>by simp[Ybu]) (by rw[d];exact q.1) (q.2 w' o)
  rwa[d] at B) _ _ _ _ (⟨⟨_,Zfh w⟩,rfl⟩:∃x:Ext w,{ w with drawn:=w.drawn+1 }=x.val) H
 have e:n+(l.toArray.size-n)=l.toArray.size:=by omega
 rw[b,e] at r;exact r
section
variable {P:Program}{ops:Array Oper}{md:Yby}{C:World->Prop}
def Z0g (o:Oper):Bool:=o.guard.isNone && match o.op with | .move _=>true|_=>false
def Zx0 (md:Yby)(ops:Array Oper)(n:Nat)(l0:Array Bool):Bool :=
 (Yb7 n).all λ i=>l0.getD i false || (Yb7 (n+1)).any λ j=>decide (i<j) && Region.waitsFor md ops j i
theorem Zh3 {n:Nat}{l0 a:Array Bool}(E:Zx0 md ops n l0=true)(B:Yco md ops n=true)(hn:n<ops.size)(k:HeadInv md ops n a)
 (o:∀i,l0.getD i false=true->a.getD i false=true) :
 ∀(d i:Nat),n-i=d->i<n->a.getD i true=false->∀t,n<=t->t ∉ Yay md ops a:=by
 intro d
 induction d using Nat.strongRecOn with
 | _ d ih =>
  intro i hd hi h t ht A;obtain⟨_,z,l,f⟩:=mem_ready.1 A;have m:t<ops.size:=(Array.getElem?_eq_some_iff.1 l).1;by_cases u:t=n
  .subst u
   have b:=Ya2.1 E i (Ycr.2 hi);rw[Ybt] at b;rcases b with b|b
   .have:=o i b
    rw[getD_both h] at this
    cases this
   obtain⟨j,D,q⟩:=List.any_eq_true.1 b;simp only[Yq,decide_eq_true_eq] at q;obtain⟨x,p,e,s,r,c⟩:=Yb6 q.2;have y:j<=t:=by have:=Ycr.1 D;omega
   by_cases v:j=t
   .subst v
    have:x=z:=Option.some.inj (p.symm.trans l);subst this;have g:=f e s r;rw[c,getD_both h] at g
    cases g
   .cases hl:a.getD j false with
    | true =>
     have g:=k.closed j x p hl e s r;rw[c,getD_both h] at g
     cases g
    | false =>
     have w:j<a.size:=by rw[k.size];omega
     exact ih (t-j) (by omega) j rfl (by omega) (getD_in w hl) t (Yc _) A
  .have b:=Ya2.1 B t (Ycr.2 m)
   simp only[Ybt,decide_eq_true_eq] at b;rcases b with b|b
   .omega
   .obtain⟨o',ho',e,s,r,c⟩:=Yb6 b
    have:o'=z:=Option.some.inj (ho'.symm.trans l);subst this;have g:=f e s r;rw[c,getD_both (k.tail (t-1) (by omega) (by omega))] at g
    cases g
theorem Zjn {n i:Nat}{A:Oper}{v:Value}{L:Array Bool->Act->Prop}{l0:Array Bool}(hi:ops[i]?=some A)(t:∀(j:Nat)(o:Oper) cs b,ops[j]?=some o->o.op≠.select cs b)
 (U:Zx0 md ops n l0=true) (Q:Yco md ops n=true) (T:n<ops.size) (G:i<n) (w:∀c a,L c a->∀j∈Yay md ops c,n<=j) :
 ∀(f:Nat)(c:Array Bool)(a:Act),HeadInv md ops n c->(∀i,l0.getD i false=true->c.getD i false=true) ->
  (∀j x,ops[j]?=some x->j≠i->c.getD j true=false->(∀e∈x.after,Ybn md e=true->e.on≠i)->A.apart ops x=true) ->
  i∈Yay md ops c->YieldsIn P ops C A v a ->
  Zb1 P md ops C n L f (c.setIfInBounds i true) (a.put A.dst v)->Zb1 P md ops C n L (f+1) c a:=by
 intro f
 induction f with
 | zero =>
  intro c a r g _ u J H;have m:=(mem_ready.1 u).1;refine⟨λ h=>(by rw[h] at u;cases u),λ j y=>?_⟩;have q:j<n:=Ybv λ h=>absurd y (Zh3 U Q T r g _ i rfl G m j h)
  refine⟨q,?_⟩;by_cases d:j=i
  .subst d;exact J.qOp hi H
  .exact absurd (w _ _ H j (ready_mono y d)) (by omega)
 | succ f ih =>
  intro c a r g l u J H;have m:=(mem_ready.1 u).1;refine⟨λ h=>(by rw[h] at u;cases u),λ j y=>?_⟩;have q:j<n:=Ybv λ h=>absurd y (Zh3 U Q T r g _ i rfl G m j h)
  refine⟨q,?_⟩;by_cases d:j=i
  .subst d;exact J.qOp hi H
  .have I:=(H.2 j (ready_mono y d)).2
   obtain⟨s,x,z,D⟩:=mem_ready.1 y;have B:∀e∈x.after,Ybn md e=true->e.on≠i:=λ e X Y N=>by
    have I:=D e X Y;rw[N,getD_both m] at I
    cases I
   have V:=qOp_put z (l j x z d s B) (λ cs b=>t i A cs b hi) (λ cs b=>t j x cs b z) J I;have p:∀k ok,ops[k]?=some ok->k≠i->(c.setIfInBounds j true).getD k true=false ->
    (∀e∈ok.after,Ybn md e=true->e.on≠i)->A.apart ops ok=true:=λ k ok M K E O=>by
    refine l k ok M K ?_ O;by_cases F:j=k
    .subst F;exact s
    .rw[getD_set_ne true F] at E;exact E
   refine qOp_mono (λ W R=>ih (c.setIfInBounds j true) W (r.set y q) (λ k M=>getD_set_true (g k M)) p (ready_mono u (Ne.symm d)) R.1 ?_) V;rw[Yct _ _ d];exact R.2
def Zua (md:Yby)(ops:Array Oper)(n g:Nat):List Nat->Array Bool->Bool
 | [],listed=>Region.seqB md ops g n listed
 | k::js,listed=>decide (k<n) && (Yay md ops listed).contains k && Region.free md ops listed k && Zua md ops n g js (listed.setIfInBounds k true)
theorem Zgw {n g:Nat}{m:Act->Prop}{l0:Array Bool}(d:Yck ops=true)(u:Zx0 md ops n l0=true)(r:Yco md ops n=true)(t:n<ops.size) :
 ∀(f:List Nat)(b:Array Bool)(a:Act),HeadInv md ops n b->(∀i,l0.getD i false=true->b.getD i false=true) ->
 Zua md ops n g f b=true->wpQuiet P ops C m (f.filterMap λ j=>ops[j]?) a ->
 Zb1 P md ops C n (λ c s=>Region.seqB md ops g n c=true/\m s) f.length b a
 | [],b,a,_,_,hB,h=>⟨by simpa[Zua] using hB,by simpa[wpQuiet] using h⟩
 | k::f,b,a,inv,hsub,hB,h=>by
  simp only[Zua,Yq,decide_eq_true_eq] at hB;obtain⟨⟨⟨l,z⟩,hf⟩,p⟩:=hB;have e:k∈Yay md ops b:=by simpa using z
  obtain⟨_,o,h0,_⟩:=mem_ready.1 e;rw[Ydb,h0] at h;have q:qOp P ops C k (wpQuiet P ops C m (f.filterMap λ j=>ops[j]?)) a:=by unfold qOp;simp only[h0];exact h
  obtain⟨v,y,w⟩:=yieldsIn_of_qOp h0 q;exact Zjn h0 (Yc7 d) u r t l (λ c s x=>seqB_ready x.1) f.length b a inv hsub (Region.free_spec h0 hf) e y
   (Zgw d u r t f _ _ (inv.set e l) (λ i hi=>getD_set_true (hsub i hi)) p w)
def Zrj (md:Yby)(ops:Array Oper)(n g:Nat):Nat->List Nat->Array Bool->Bool
 | 0,js,listed=>Zx0 md ops n listed && Zua md ops n g js listed
 | p+1,k::js,listed=>decide (k<n) && ((ops[k]?).map Z0g).getD false && (Yay md ops listed).contains k && Region.free md ops listed k && Zrj md ops n g p js (listed.setIfInBounds k true)
 | _+1,[],_=>false
theorem Zrk {o:Oper}{a:Act}{v:Value}{x:Operand}(w:World)(c:C w)(d:o.op=.move x)(h:∀w,C w->o.quietAt P a C w v):v=a.eval x:=by
 have b:=h w c;unfold Oper.quietAt at b;rw[BigFrame.run_move x d] at b;exact b.2.symm
theorem Zj3 {n g:Nat}{Q:Exit->Act->World->Prop}{l:List Oper}(m:ops=l.toArray)(hg:g=ops.size-n)(q:Yck ops=true)(G:Yco md ops n=true)(I:n<ops.size)
 (H:∀d c a v w,Q (.panic c) (a.put (some d) v) w->Q (.panic c) a w) :
 ∀(p:Nat)(r:List Nat)(b:Array Bool)(a:Act)(w:World),C w->HeadInv md ops n b->Zrj md ops n g p r b=true ->
 wpQuiet P ops C (λ t=>∀w',C w'->wpList P ops Q (l.drop n) t w') (r.filterMap λ j=>ops[j]?) a->wpAny P md ops Q (r.length+g) b a w
 | 0,r,b,a,w,hw,inv,hB,h=>by
  simp only[Zrj,Yq] at hB;have s:(l.drop n).length=g:=by subst m hg;simp
  refine Zbp (g:=g) (λ b t w' z F=>?_) _ _ _ _ hw (Zgw (g:=g) q hB.1 G I r b a inv (λ _ h=>h) hB.2 h);have L:=wpAny_of_seq (md:=md) (Q':=Q) (l.drop n) n b t w' (λ j=>by subst m;simp[Ybu]) (by rw[s];exact F.1) (F.2 w' z)
  rwa[s] at L
 | p+1,[],_,_,_,_,_,hB,_=>by simp[Zrj] at hB
 | p+1,k::r,b,a,w,hw,inv,hB,h=>by
  simp only[Zrj,Yq,decide_eq_true_eq] at hB;obtain⟨⟨⟨⟨A,f⟩,J⟩,hf⟩,B⟩:=hB;have u:k∈Yay md ops b:=by simpa using J
  obtain⟨_,o,h0,_⟩:=mem_ready.1 u;rw[Ydb,h0] at h;rw[h0] at f;simp only[Option.map_some,Option.getD_some,Z0g,Yq,Option.isNone_iff_eq_none] at f;obtain⟨D,f⟩:=f;have i:Yak o (yielded ops a.tmps)=true:=by simp[Yak,D]
  cases hx:o.op <;> rw[hx] at f <;> try cases f
  rename_i x
  simp only[wpQuiet,i,if_true] at h;obtain⟨v,N,K⟩:=h;have E:=Zrk w hw hx N;subst E;have M:Yields P ops o (a.eval x) a:=.inl ⟨i,λ w=>BigFrame.run_move x hx w⟩;have e:(k::r).length+g=(r.length+g)+1:=by simp;omega
  rw[e];refine wpAny_take h0 q hf J ?_ M (Zj3 m hg q G I H p r _ _ w hw (inv.set u A) B K);intro c t w' y
  cases hd:o.dst with
  | none=>rw[hd] at y;exact y
  | some d=>rw[hd] at y;exact H d c t _ w' y
end
theorem Za2 {P:Program}{id:Nat}{Q:Exit->Act->World->Prop}{a:Act}{w:World}{l:List Oper}(n p:Nat)(i:List Nat)(hm:P.follows .mixedOrders=true)
 (m:(Yck l.toArray && decide (n<l.toArray.size) && Yco .any l.toArray n && decide (i.length=n) && Zrj .any l.toArray n (l.toArray.size-n) p i (Ya9 l.toArray.size false))=true)
 (u:∀d c a v w,Q (.panic c) (a.put (some d) v) w->Q (.panic c) a w)
 (h:wpQuiet P l.toArray (λ w'=>∃x:Ext w,w'=x.val) (λ s=>∀w',(∃x:Ext w,w'=x.val)->wpList P l.toArray Q (l.drop n) s w') (i.filterMap λ j=>l[j]?) a):(Code.region id l.toArray true).wp P Q a w:=by
 simp only[Yq,decide_eq_true_eq] at m;obtain⟨⟨⟨⟨g,z⟩,q⟩,y⟩,b⟩:=m;have f:HeadInv .any l.toArray n (Ya9 l.toArray.size false) :=
  ⟨by simp,λ j oj _ o=>(by rw[getD_replicate_false] at o;cases o),λ t _ r=>getD_in (by simpa using r) (getD_replicate_false _ _)⟩
 refine wp_region_any hm ?_;have k:=Zj3 (C:=λ w'=>∃x:Ext w,w'=x.val) (Q:=Q) rfl rfl g q z u p i _ a { w with drawn:=w.drawn+1 } ⟨⟨_,Zfh w⟩,rfl⟩ f b (by simpa using h);have e:i.length+(l.toArray.size-n)=l.toArray.size:=by omega
 rw[e] at k;exact k
theorem Zh4 {P:Program}{ops:Array Oper}{C:World->Prop}{Q:Act->Prop}{a:Act}{l:List Oper}{j:Nat}{b:List Nat}{o:Oper}(h:l[j]?=some o)
 (c:wpQuiet P ops C Q (o::b.filterMap λ j=>l[j]?) a):wpQuiet P ops C Q ((j::b).filterMap λ j=>l[j]?) a:=by
 rw[Ydb,h];exact c
end
theorem Zrl (op d a b imm:Int)(w:World)(hg:good ⟨op,d,a,b,imm⟩=true) :
 Calls prog 157 #[.agg #[.int .i64 op,.int .i64 d,.int .i64 a,.int .i64 b,.int .i64 imm]] w
  λ e w'=>e=.returned (.tuple #[.int .u32 (enc ⟨op,d,a,b,imm⟩),.int .i64 0])/\Below w.heap.size w w':=by
 have hc:chk ⟨op,d,a,b,imm⟩=0:=by simp[chk,hg]
 obtain⟨f,g,d1,d2,l,m,s,t,v⟩:=Zfa hg;clear hg;rcases v with⟨h,i,hA,k,j,i1,c⟩|⟨h,i,hA,k,j,i1,c⟩|⟨h,i,hA,k,j,i1,c⟩|⟨h,i,hA,k,j,i1,c⟩|⟨h,i,hA,k,j,i1,c⟩|⟨h,i,hA,k,j,i1,c⟩|⟨h,i,hA,k,j,i1,c⟩
 all_goals
  have H:=Lib.hid h;clear h;go_enter func157,ntmps157
  go_wp2_with (first
   | (go_at_call 188;refine(Zbz _ _ _ _ _ _).mono ?_;rintro e w' ⟨rfl,q⟩;obtain⟨n,u⟩:=Zh9 q;have x:=q.size;simp at x)
   | (go_at_call 154;refine(Zg8 _ _).mono ?_;rintro e w' ⟨rfl,rfl⟩)
   | (go_at_call 153;refine(Zor _ _).mono ?_;rintro e w' ⟨rfl,rfl⟩))
  refine wp_loop_rounds 4 ?_;rw[rounds_succ]
  go_wp2
  rw[rounds_succ]
  go_wp2
  rw[rounds_succ]
  go_wp2
  rw[rounds_succ]
  go_wp2
  refine Zus (λ o=>o.cell? ⟨w.heap.size,4,none⟩=some (.int .i64 imm)/\Below w.heap.size w o) ⟨?_,?_⟩ ?_
  .have r:w'.cell? ⟨w.heap.size,4,none⟩=some (.int .i64 imm):=by rw[n _ _ (by simp)];go_simp
   refine(Below.cell (B:=w'.heap.size) (w:=w') ?_ ?_).trans r
   .exact((((Below.refl _ _).alloc (by simp) _).alloc (by simp) _).alloc (by simp;omega) _).alloc (by simp;omega) _
   .simp;omega
  .have h0:Below w.heap.size w w':=((Below.refl _ _).alloc (Yc _) _).trans (q.mono (by simp))
   exact(((h0.alloc (by omega) _).alloc (by simp;omega) _).alloc (by simp;omega) _).alloc (by simp;omega) _
  rintro o ⟨r,p⟩
  go_quiet (fail)
  go_wp2
  go_ret2
  refine⟨Zyg ?_ rfl,below_drewN p _⟩
  first
   | (with_reducible exact Z7a f g d1 d2 l m s t i1 c H.out)
   | (with_reducible exact Z7b f g d1 d2 l m i1 c H.out)
   | (with_reducible exact Z7c f g d1 d2 i1 c H.out)
   | (with_reducible exact Z7d f g l m s t i1 c H.out)
   | (with_reducible exact Z7e f g d1 d2 i1 c H.out)
   | (with_reducible exact Z7f f g d1 d2 i1 c H.out)
   | (with_reducible exact Z7g f g l m i1 c H.out)
theorem Zub {x:Inst}(h:good x=false):chk x=11:=by simp[chk,h]
theorem Zrm {x:Inst}(h:good x=false):wordOf x=0:=by simp[wordOf,h]
theorem Zk8 {x:Inst}(h:good x=true):chk x=0:=by simp[chk,h]
theorem Ze3 {x:Inst}(h:good x=true):wordOf x=enc x:=by simp[wordOf,h]
theorem Zep (op d a b imm:Int)(w:World) :
 Calls prog 157 #[.agg #[.int .i64 op,.int .i64 d,.int .i64 a,.int .i64 b,.int .i64 imm]] w
  λ e w'=>e=.returned (.tuple #[.int .u32 (wordOf ⟨op,d,a,b,imm⟩),.int .i64 (chk ⟨op,d,a,b,imm⟩)])/\Below w.heap.size w w':=by
 cases hg:good ⟨op,d,a,b,imm⟩
 .have hc:=Zub hg
  have g:=Zrm hg;rw[g];clear hg g;go_enter func157,ntmps157
  go_wp2_with (go_at_call 188;refine(Zbz _ _ _ _ _ _).mono ?_;rintro e w' ⟨rfl,c⟩)
  go_ret2
  exact⟨by simp[hc],((Below.refl _ _).alloc (Yc _) _).trans (c.mono (by simp))⟩
 .rw[Zk8 hg,Ze3 hg]
  exact Zrl op d a b imm w hg
theorem asm_word (op d a b imm:Int) (w:World) :
    Calls prog 200 #[.agg #[.int .i64 op,.int .i64 d,.int .i64 a,.int .i64 b,.int .i64 imm]] w
      λ e w'=>e=.returned (.int .u32 (wordOf ⟨op,d,a,b,imm⟩))/\Below w.heap.size w w':=by
  go_enter func200,ntmps200
  go_wp2_with (go_at_call 157;refine(Zep _ _ _ _ _ _).mono ?_;rintro e w' ⟨rfl,c⟩)
  go_ret
  exact⟨rfl,((Below.refl _ _).alloc (Yc _) _).trans (c.mono (by simp))⟩
