/- Parts. -/
import Derived.Test.YtldbnjajjfgipaaGreatDoorZOwn
import Derived.StillTailTactics
import Derived.Laws.BitsLemmas
import Derived.Laws.BitsAllLaws
set_option linter.all false
open Nat renaming le_refl->Yd,zero_le->Ya2,lt_of_not_le->Ybr
open List renaming getElem?_eq_some_iff->Yg,getD_eq_getElem?_getD->Yh,length_cons->Yk,all_eq_true->Yau,getElem?_drop->Ybq,range->Yb2,mem_range->Ycd,filterMap_cons->Yc6
open Bool renaming and_eq_true->Yq,or_eq_true->Ybp
open Go.Region renaming wanted->Yah,ready->Yap,binds->Ybh,Mode->Ybu,waitsFor_spec->Yb1,noSelect->Yb6,chainB->Ycb,noSelect_spec->Yc1
open Array renaming replicate->Ya6,setIfInBounds_comm->Ycg
namespace Go.Proofs.YtldbnjajjfgipaaGreatDoor
open S Go.RowKit
section
def Ext (w:World):={w':World // Below w.heap.size w w'}
instance extNonempty (w:World):Nonempty (Ext w):=⟨⟨w,Below.refl _ _⟩⟩
theorem Zo (w:World):(∀(x:Ext w)(b o:Nat),b<w.heap.size->x.val.cell? ⟨b,o,none⟩=w.cell? ⟨b,o,none⟩):=λ x b o h=>x.property.cell (p:=⟨b,o,none⟩) h
theorem Zum (w:World)(x:Ext w):w.heap.size<=x.val.heap.size:=x.property.size
theorem Zdz {P:Program}{f:FuncId}{args:Array Value}{w:World}{x:Ext w}{v:Value}(h:Calls P f args x.val λ e w'=>e=.returned v/\Below x.val.heap.size x.val w') :
 Calls P f args x.val λ e a=>e=.returned v/\∃y:Ext w,a=y.val :=
 h.mono λ _ a ⟨b,hm⟩=>⟨b,⟨a,x.property.trans (hm.mono x.property.size)⟩,rfl⟩
theorem Zcj {P:Program}{f:FuncId}{args:Array Value}{w:World}{x:Ext w}{v:Value}(h:Calls P f args x.val λ e w'=>e=.returned v/\x.val=w') :
 Calls P f args x.val λ e a=>e=.returned v/\∃y:Ext w,a=y.val :=
 h.mono λ _ a ⟨b,hm⟩=>⟨b,x,hm.symm⟩
theorem Zeg (w:World):Below w.heap.size w { w with drawn:=w.drawn+1 }:=⟨rfl,rfl,rfl,Yd _,λ _ _=>rfl⟩
theorem Zp {P:Program}{id:Nat}{Q:Exit->Act->World->Prop}{a:Act}{w:World}{l:List Oper}(hm:P.follows .mixedOrders=true)(b:Region.lexB .any l.toArray=true)
 (h:wpQuiet P l.toArray (λ w'=>∃x:Ext w,w'=x.val) (λ c=>∀w',(∃x:Ext w,w'=x.val)->Q .normal c w') l a):(Code.region id l.toArray true).wp P Q a w :=
 wp_region_quiet (C:=λ w'=>∃x:Ext w,w'=x.val) hm b ⟨⟨_,Zeg w⟩,rfl⟩ (by simpa using h)
section
variable {P:Program}{ops:Array Oper}{md:Ybu}{C:World->Prop}
def Zbf (P:Program)(md:Ybu)(ops:Array Oper)(C:World->Prop)(n:Nat)(L:Array Bool->Act->Prop):Nat->Array Bool->Act->Prop
 | 0,listed,a=>L listed a
 | f+1,listed,a=>Yap md ops listed≠[]/\∀i∈Yap md ops listed,i<n/\qOp P ops C i (Zbf P md ops C n L f (listed.setIfInBounds i true)) a
theorem Za8 {n g:Nat}{L:Array Bool->Act->Prop}{Q':Exit->Act->World->Prop}(d:∀b a w,C w->L b a->wpAny P md ops Q' g b a w) :
 ∀(f:Nat)(b:Array Bool)(a:Act)(w:World),C w->Zbf P md ops C n L f b a->wpAny P md ops Q' (f+g) b a w
 | 0,_,_,_,hw,h=>by rw[Nat.zero_add];exact d _ _ _ hw h
 | f+1,b,a,w,hw,h=>by
  have e:f+1+g=(f+g)+1:=by omega
  rw[e];exact⟨λ h0=>absurd h0 h.1,λ i hi=>wpOp_of_qOp hw (λ k w' c j=>Za8 d f _ k w' c j) (h.2 i hi).2⟩
theorem Zjo {n i:Nat}{z:Oper}{v:Value}{L:Array Bool->Act->Prop}(hi:ops[i]?=some z)(s:∀(j:Nat)(o:Oper) cs b,ops[j]?=some o->o.op≠.select cs b)
 (R:Region.sinkB md ops n=true) (O:Ycb md ops n=true) (N:n<ops.size) (B:i<n) (u:∀c a,L c a->∀j∈Yap md ops c,n<=j) :
 ∀(f:Nat)(c:Array Bool)(a:Act),HeadInv md ops n c ->
  (∀j w,ops[j]?=some w->j≠i->c.getD j true=false->(∀e∈w.after,Ybh md e=true->e.on≠i)->z.apart ops w=true) ->
  i∈Yap md ops c->YieldsIn P ops C z v a ->
  Zbf P md ops C n L f (c.setIfInBounds i true) (a.put z.dst v)->Zbf P md ops C n L (f+1) c a:=by
 intro f
 induction f with
 | zero =>
  intro c a l _ t G H;have m:=(mem_ready.1 t).1;refine⟨λ h=>(by rw[h] at t;cases t),λ j x=>?_⟩;have q:j<n:=Ybr λ h=>absurd x (tail_waits R O N l _ i rfl B m j h)
  refine⟨q,?_⟩;by_cases d:j=i
  .subst d;exact G.qOp hi H
  .exact absurd (u _ _ H j (ready_mono x d)) (by omega)
 | succ f ih =>
  intro c a l g t G H;have m:=(mem_ready.1 t).1;refine⟨λ h=>(by rw[h] at t;cases t),λ j x=>?_⟩;have q:j<n:=Ybr λ h=>absurd x (tail_waits R O N l _ i rfl B m j h)
  refine⟨q,?_⟩;by_cases d:j=i
  .subst d;exact G.qOp hi H
  .have I:=(H.2 j (ready_mono x d)).2
   obtain⟨r,w,y,A⟩:=mem_ready.1 x;have E:∀e∈w.after,Ybh md e=true->e.on≠i:=λ e X U J=>by
    have I:=A e X U;rw[J,getD_both m] at I
    cases I
   have W:=qOp_put y (g j w y d r E) (λ cs b=>s i z cs b hi) (λ cs b=>s j w cs b y) G I;have p:∀k ok,ops[k]?=some ok->k≠i->(c.setIfInBounds j true).getD k true=false ->
    (∀e∈ok.after,Ybh md e=true->e.on≠i)->z.apart ops ok=true:=λ k ok V M D K=>by
    refine g k ok V M ?_ K;by_cases F:j=k
    .subst F;exact r
    .rw[getD_set_ne true F] at D;exact D
   refine qOp_mono (λ T Q=>ih (c.setIfInBounds j true) T (l.set x q) p (ready_mono t (Ne.symm d)) Q.1 ?_) W;rw[Ycg _ _ d];exact Q.2
theorem Zgf {n g:Nat}{p:Act->Prop}(d:Yb6 ops=true)(t:Region.sinkB md ops n=true)(s:Ycb md ops n=true)(r:n<ops.size) :
 ∀(l:List Oper)(k:Nat)(b:Array Bool)(a:Act),(∀j,j<l.length->l[j]?=ops[k+j]?)->k+l.length=n->HeadInv md ops n b ->
 Region.lexHead md ops g l.length k b=true->wpQuiet P ops C p l a ->
 Zbf P md ops C n (λ c q=>Region.seqB md ops g n c=true/\p q) l.length b a
 | [],k,b,a,_,hk,_,hB,h=>by
  have:k=n:=by simpa using hk
  subst this;exact⟨by simpa[Region.lexHead] using hB,h⟩
 | o::l,k,b,a,hl,hk,inv,hB,h=>by
  have h0:ops[k]?=some o:=by simpa using (hl 0 (by simp)).symm
  simp only[Yk,Region.lexHead,Yq] at hB;obtain⟨⟨y,hf⟩,i⟩:=hB;have e:k<n:=by simp only[Yk] at hk;omega
  have f:k∈Yap md ops b:=by simpa using y
  have m:qOp P ops C k (wpQuiet P ops C p l) a:=by unfold qOp;simp only[h0];exact h
  obtain⟨v,x,w⟩:=yieldsIn_of_qOp h0 m;exact Zjo h0 (Yc1 d) t s r e (λ c q u=>seqB_ready u.1) l.length b a inv (Region.free_spec h0 hf) f x
   (Zgf d t s r l (k+1) _ _ (λ j hj=>by have:=hl (j+1) (by simp;omega);simpa[Nat.add_assoc,Nat.add_comm 1 j] using this) (by simp only[Yk] at hk;omega) (inv.set f e) i w)
end
theorem Zm {P:Program}{id:Nat}{Q:Exit->Act->World->Prop}{a:Act}{w:World}{l:List Oper}(n:Nat)(hm:P.follows .mixedOrders=true)(r:Region.lexTailB .any l.toArray n=true)
 (h:wpQuiet P l.toArray (λ w'=>∃x:Ext w,w'=x.val) (λ m=>∀w',(∃x:Ext w,w'=x.val)->wpList P l.toArray Q (l.drop n) m w') (l.take n) a):(Code.region id l.toArray true).wp P Q a w:=by
 simp only[Region.lexTailB,Yq,decide_eq_true_eq] at r;obtain⟨⟨⟨⟨f,y⟩,E⟩,B⟩,i⟩:=r;have z:n<l.length:=by simpa using y
 have b:(l.take n).length=n:=by simp;omega
 have k:(l.drop n).length=l.toArray.size-n:=by simp
 have d:HeadInv .any l.toArray n (Ya6 l.toArray.size false) :=
  ⟨by simp,λ j oj _ s=>(by rw[getD_replicate_false] at s;cases s),λ t _ A=>getD_in (by simpa using A) (getD_replicate_false _ _)⟩
 have H:=Zgf (md:=.any) (g:=l.toArray.size-n) f E B y (l.take n) 0 _ a (λ j v=>by
  have o:j<n:=by rw[b] at v;exact v
  simp[o]) (by simpa using b) d (by rw[b];exact i) h
 refine wp_region_any hm ?_;have u:=Za8 (Q':=Q) (g:=l.toArray.size-n) (λ c m w' p q=>by
  have D:=wpAny_of_seq (md:=.any) (Q':=Q) (l.drop n) n c m w' (λ j=>by simp[Ybq]) (by rw[k];exact q.1) (q.2 w' p)
  rwa[k] at D) _ _ _ _ (⟨⟨_,Zeg w⟩,rfl⟩:∃x:Ext w,{ w with drawn:=w.drawn+1 }=x.val) H
 have e:n+(l.toArray.size-n)=l.toArray.size:=by omega
 rw[b,e] at u;exact u
section
variable {P:Program}{ops:Array Oper}{md:Ybu}{C:World->Prop}
def Zw4 (o:Oper):Bool:=o.guard.isNone && match o.op with | .move _=>true|_=>false
def Zun (md:Ybu)(ops:Array Oper)(n:Nat)(l0:Array Bool):Bool :=
 (Yb2 n).all λ i=>l0.getD i false || (Yb2 (n+1)).any λ j=>decide (i<j) && Region.waitsFor md ops j i
theorem Zgg {n:Nat}{l0 a:Array Bool}(E:Zun md ops n l0=true)(D:Ycb md ops n=true)(hn:n<ops.size)(h:HeadInv md ops n a)
 (p:∀i,l0.getD i false=true->a.getD i false=true) :
 ∀(d i:Nat),n-i=d->i<n->a.getD i true=false->∀t,n<=t->t ∉ Yap md ops a:=by
 intro d
 induction d using Nat.strongRecOn with
 | _ d ih =>
  intro i hd hi k t ht A;obtain⟨_,y,l,f⟩:=mem_ready.1 A;have m:t<ops.size:=(Array.getElem?_eq_some_iff.1 l).1;by_cases u:t=n
  .subst u
   have b:=Yau.1 E i (Ycd.2 hi);rw[Ybp] at b;rcases b with b|b
   .have:=p i b
    rw[getD_both k] at this
    cases this
   obtain⟨j,B,o⟩:=List.any_eq_true.1 b;simp only[Yq,decide_eq_true_eq] at o;obtain⟨z,q,e,s,r,c⟩:=Yb1 o.2;have x:j<=t:=by have:=Ycd.1 B;omega
   by_cases v:j=t
   .subst v
    have:z=y:=Option.some.inj (q.symm.trans l);subst this;have g:=f e s r;rw[c,getD_both k] at g
    cases g
   .cases hl:a.getD j false with
    | true =>
     have g:=h.closed j z q hl e s r;rw[c,getD_both k] at g
     cases g
    | false =>
     have w:j<a.size:=by rw[h.size];omega
     exact ih (t-j) (by omega) j rfl (by omega) (getD_in w hl) t (Yd _) A
  .have b:=Yau.1 D t (Ycd.2 m)
   simp only[Ybp,decide_eq_true_eq] at b;rcases b with b|b
   .omega
   .obtain⟨o',ho',e,s,r,c⟩:=Yb1 b
    have:o'=y:=Option.some.inj (ho'.symm.trans l);subst this;have g:=f e s r;rw[c,getD_both (h.tail (t-1) (by omega) (by omega))] at g
    cases g
theorem Zic {n i:Nat}{A:Oper}{v:Value}{L:Array Bool->Act->Prop}{l0:Array Bool}(hi:ops[i]?=some A)(t:∀(j:Nat)(o:Oper) cs b,ops[j]?=some o->o.op≠.select cs b)
 (U:Zun md ops n l0=true) (R:Ycb md ops n=true) (Q:n<ops.size) (D:i<n) (w:∀c a,L c a->∀j∈Yap md ops c,n<=j) :
 ∀(f:Nat)(c:Array Bool)(a:Act),HeadInv md ops n c->(∀i,l0.getD i false=true->c.getD i false=true) ->
  (∀j x,ops[j]?=some x->j≠i->c.getD j true=false->(∀e∈x.after,Ybh md e=true->e.on≠i)->A.apart ops x=true) ->
  i∈Yap md ops c->YieldsIn P ops C A v a ->
  Zbf P md ops C n L f (c.setIfInBounds i true) (a.put A.dst v)->Zbf P md ops C n L (f+1) c a:=by
 intro f
 induction f with
 | zero =>
  intro c a m g _ u I H;have p:=(mem_ready.1 u).1;refine⟨λ h=>(by rw[h] at u;cases u),λ j y=>?_⟩;have r:j<n:=Ybr λ h=>absurd y (Zgg U R Q m g _ i rfl D p j h)
  refine⟨r,?_⟩;by_cases d:j=i
  .subst d;exact I.qOp hi H
  .exact absurd (w _ _ H j (ready_mono y d)) (by omega)
 | succ f ih =>
  intro c a m g l u I H;have p:=(mem_ready.1 u).1;refine⟨λ h=>(by rw[h] at u;cases u),λ j y=>?_⟩;have r:j<n:=Ybr λ h=>absurd y (Zgg U R Q m g _ i rfl D p j h)
  refine⟨r,?_⟩;by_cases d:j=i
  .subst d;exact I.qOp hi H
  .have J:=(H.2 j (ready_mono y d)).2
   obtain⟨s,x,z,B⟩:=mem_ready.1 y;have F:∀e∈x.after,Ybh md e=true->e.on≠i:=λ e Y W K=>by
    have J:=B e Y W;rw[K,getD_both p] at J
    cases J
   have X:=qOp_put z (l j x z d s F) (λ cs b=>t i A cs b hi) (λ cs b=>t j x cs b z) I J;have q:∀k ok,ops[k]?=some ok->k≠i->(c.setIfInBounds j true).getD k true=false ->
    (∀e∈ok.after,Ybh md e=true->e.on≠i)->A.apart ops ok=true:=λ k ok M O E N=>by
    refine l k ok M O ?_ N;by_cases G:j=k
    .subst G;exact s
    .rw[getD_set_ne true G] at E;exact E
   refine qOp_mono (λ V T=>ih (c.setIfInBounds j true) V (m.set y r) (λ k M=>getD_set_true (g k M)) q (ready_mono u (Ne.symm d)) T.1 ?_) X;rw[Ycg _ _ d];exact T.2
def Zqs (md:Ybu)(ops:Array Oper)(n g:Nat):List Nat->Array Bool->Bool
 | [],listed=>Region.seqB md ops g n listed
 | k::js,listed=>decide (k<n) && (Yap md ops listed).contains k && Region.free md ops listed k && Zqs md ops n g js (listed.setIfInBounds k true)
theorem Zfn {n g:Nat}{q:Act->Prop}{l0:Array Bool}(d:Yb6 ops=true)(u:Zun md ops n l0=true)(t:Ycb md ops n=true)(s:n<ops.size) :
 ∀(e:List Nat)(b:Array Bool)(a:Act),HeadInv md ops n b->(∀i,l0.getD i false=true->b.getD i false=true) ->
 Zqs md ops n g e b=true->wpQuiet P ops C q (e.filterMap λ j=>ops[j]?) a ->
 Zbf P md ops C n (λ c r=>Region.seqB md ops g n c=true/\q r) e.length b a
 | [],b,a,_,_,hB,h=>⟨by simpa[Zqs] using hB,by simpa[wpQuiet] using h⟩
 | k::e,b,a,inv,hsub,hB,h=>by
  simp only[Zqs,Yq,decide_eq_true_eq] at hB;obtain⟨⟨⟨l,z⟩,hf⟩,m⟩:=hB;have f:k∈Yap md ops b:=by simpa using z
  obtain⟨_,o,h0,_⟩:=mem_ready.1 f;rw[Yc6,h0] at h;have p:qOp P ops C k (wpQuiet P ops C q (e.filterMap λ j=>ops[j]?)) a:=by unfold qOp;simp only[h0];exact h
  obtain⟨v,y,x⟩:=yieldsIn_of_qOp h0 p;exact Zic h0 (Yc1 d) u t s l (λ c r w=>seqB_ready w.1) e.length b a inv hsub (Region.free_spec h0 hf) f y
   (Zfn d u t s e _ _ (inv.set f l) (λ i hi=>getD_set_true (hsub i hi)) m x)
def Zo3 (md:Ybu)(ops:Array Oper)(n g:Nat):Nat->List Nat->Array Bool->Bool
 | 0,js,listed=>Zun md ops n listed && Zqs md ops n g js listed
 | p+1,k::js,listed=>decide (k<n) && ((ops[k]?).map Zw4).getD false && (Yap md ops listed).contains k && Region.free md ops listed k && Zo3 md ops n g p js (listed.setIfInBounds k true)
 | _+1,[],_=>false
theorem Zo4 {o:Oper}{a:Act}{v:Value}{x:Operand}(w:World)(d:C w)(c:o.op=.move x)(h:∀w,C w->o.quietAt P a C w v):v=a.eval x:=by
 have b:=h w d;unfold Oper.quietAt at b;rw[BigFrame.run_move x c] at b;exact b.2.symm
theorem Zin {n g:Nat}{Q:Exit->Act->World->Prop}{l:List Oper}(q:ops=l.toArray)(hg:g=ops.size-n)(i:Yb6 ops=true)(I:Ycb md ops n=true)(H:n<ops.size)
 (J:∀d c a v w,Q (.panic c) (a.put (some d) v) w->Q (.panic c) a w) :
 ∀(p:Nat)(r:List Nat)(b:Array Bool)(a:Act)(w:World),C w->HeadInv md ops n b->Zo3 md ops n g p r b=true ->
 wpQuiet P ops C (λ s=>∀w',C w'->wpList P ops Q (l.drop n) s w') (r.filterMap λ j=>ops[j]?) a->wpAny P md ops Q (r.length+g) b a w
 | 0,r,b,a,w,hw,inv,hB,h=>by
  simp only[Zo3,Yq] at hB;have t:(l.drop n).length=g:=by subst q hg;simp
  refine Za8 (g:=g) (λ b s w' E F=>?_) _ _ _ _ hw (Zfn (g:=g) i hB.1 I H r b a inv (λ _ h=>h) hB.2 h);have N:=wpAny_of_seq (md:=md) (Q':=Q) (l.drop n) n b s w' (λ j=>by subst q;simp[Ybq]) (by rw[t];exact F.1) (F.2 w' E)
  rwa[t] at N
 | p+1,[],_,_,_,_,_,hB,_=>by simp[Zo3] at hB
 | p+1,k::r,b,a,w,hw,inv,hB,h=>by
  simp only[Zo3,Yq,decide_eq_true_eq] at hB;obtain⟨⟨⟨⟨D,f⟩,G⟩,hf⟩,z⟩:=hB;have u:k∈Yap md ops b:=by simpa using G
  obtain⟨_,o,h0,_⟩:=mem_ready.1 u;rw[Yc6,h0] at h;rw[h0] at f;simp only[Option.map_some,Option.getD_some,Zw4,Yq,Option.isNone_iff_eq_none] at f;obtain⟨A,f⟩:=f;have m:Yah o (yielded ops a.tmps)=true:=by simp[Yah,A]
  cases hx:o.op <;> rw[hx] at f <;> try cases f
  rename_i x
  simp only[wpQuiet,m,if_true] at h;obtain⟨v,M,K⟩:=h;have B:=Zo4 w hw hx M;subst B;have L:Yields P ops o (a.eval x) a:=.inl ⟨m,λ w=>BigFrame.run_move x hx w⟩;have e:(k::r).length+g=(r.length+g)+1:=by simp;omega
  rw[e];refine wpAny_take h0 i hf G ?_ L (Zin q hg i I H J p r _ _ w hw (inv.set u D) z K);intro c s w' y
  cases hd:o.dst with
  | none=>rw[hd] at y;exact y
  | some d=>rw[hd] at y;exact J d c s _ w' y
end
theorem Zar {P:Program}{id:Nat}{Q:Exit->Act->World->Prop}{a:Act}{w:World}{l:List Oper}(n p:Nat)(i:List Nat)(hm:P.follows .mixedOrders=true)
 (k:(Yb6 l.toArray && decide (n<l.toArray.size) && Ycb .any l.toArray n && decide (i.length=n) && Zo3 .any l.toArray n (l.toArray.size-n) p i (Ya6 l.toArray.size false))=true)
 (z:∀d c a v w,Q (.panic c) (a.put (some d) v) w->Q (.panic c) a w)
 (h:wpQuiet P l.toArray (λ w'=>∃x:Ext w,w'=x.val) (λ q=>∀w',(∃x:Ext w,w'=x.val)->wpList P l.toArray Q (l.drop n) q w') (i.filterMap λ j=>l[j]?) a):(Code.region id l.toArray true).wp P Q a w:=by
 simp only[Yq,decide_eq_true_eq] at k;obtain⟨⟨⟨⟨g,r⟩,y⟩,u⟩,b⟩:=k;have f:HeadInv .any l.toArray n (Ya6 l.toArray.size false) :=
  ⟨by simp,λ j oj _ m=>(by rw[getD_replicate_false] at m;cases m),λ t _ s=>getD_in (by simpa using s) (getD_replicate_false _ _)⟩
 refine wp_region_any hm ?_;have o:=Zin (C:=λ w'=>∃x:Ext w,w'=x.val) (Q:=Q) rfl rfl g y r z p i _ a { w with drawn:=w.drawn+1 } ⟨⟨_,Zeg w⟩,rfl⟩ f b (by simpa using h);have e:i.length+(l.toArray.size-n)=l.toArray.size:=by omega
 rw[e] at o;exact o
theorem Zgh {P:Program}{ops:Array Oper}{C:World->Prop}{Q:Act->Prop}{a:Act}{l:List Oper}{j:Nat}{b:List Nat}{o:Oper}(h:l[j]?=some o)
 (c:wpQuiet P ops C Q (o::b.filterMap λ j=>l[j]?) a):wpQuiet P ops C Q ((j::b).filterMap λ j=>l[j]?) a:=by
 rw[Yc6,h];exact c
end
theorem Zcz (n:Int)(h₀:0<=n)(h₁:n<2^32):IntKind.u32.wrap n=n:=by rw[IntKind.wrap_u32];omega
theorem Zv (i:Nat)(x y:Int)(m:Int)(hm:m=2^i)(a:0<=x)(f:x%m=0)(b:x<4294967296)(e:0<=y)(c:y<m)(d:y<4294967296):bits .or .u32 x y=x+y:=by
 subst hm;exact bits_join .u32 32 (by decide) Zcz i x y a f (by simpa using b) e c (by simpa using d)
theorem Zad (i:Nat)(x:Int)(m n:Int)(hm:m=2^i)(b:n=m-1)(hi:i<=32)(h0:0<=x)(a:x<4294967296):bits .and .u32 x n=x%m:=by
 subst b hm;exact bits_mask .u32 32 (by decide) Zcz i hi x h0 (by simpa using a)
theorem Z2j {op d a b imm:Int}(o1:1<=op)(o2:op<=36)(d1:0<=d)(d2:d<=31)(a1:0<=a)(a2:a<=31)(b1:0<=b)(b2:b<=31)(i1:0<=imm)(i2:imm<=0)(h:S.form op=1) :
 bits .or .u32 (bits .or .u32 (bits .or .u32 (bits .or .u32 (op*67108864) (d*2097152)) (a*65536)) (b*2048)) (bits .and .u32 imm 0)=S.enc ⟨op,d,a,b,imm⟩:=by
 rw[Zad 0 imm 1 0 (by decide) (by omega) (by omega) (by omega) (by omega),
  Zv 26 (op*67108864) (d*2097152) 67108864 (by decide) (by omega) (by omega) (by omega) (by omega) (by omega) (by omega),
  Zv 21 (op*67108864+d*2097152) (a*65536) 2097152 (by decide) (by omega) (by omega) (by omega) (by omega) (by omega) (by omega),
  Zv 16 (op*67108864+d*2097152+a*65536) (b*2048) 65536 (by decide) (by omega) (by omega) (by omega) (by omega) (by omega) (by omega),
  Zv 11 (op*67108864+d*2097152+a*65536+b*2048) (imm%1) 2048 (by decide) (by omega) (by omega) (by omega) (by omega) (by omega) (by omega)]
 simp only[S.enc,h];simp
 try omega
theorem Z2k {op d a b imm:Int}(o1:1<=op)(o2:op<=36)(d1:0<=d)(d2:d<=31)(a1:0<=a)(a2:a<=31)(i1:-32768<=imm)(i2:imm<=65535)(h:S.form op=2) :
 bits .or .u32 (bits .or .u32 (bits .or .u32 (op*67108864) (d*2097152)) (a*65536)) (bits .and .u32 (imm%4294967296) 65535)=S.enc ⟨op,d,a,b,imm⟩:=by
 rw[Zad 16 (imm%4294967296) 65536 65535 (by decide) (by omega) (by omega) (by omega) (by omega),
  Zv 26 (op*67108864) (d*2097152) 67108864 (by decide) (by omega) (by omega) (by omega) (by omega) (by omega) (by omega),
  Zv 21 (op*67108864+d*2097152) (a*65536) 2097152 (by decide) (by omega) (by omega) (by omega) (by omega) (by omega) (by omega),
  Zv 16 (op*67108864+d*2097152+a*65536) ((imm%4294967296)%65536) 65536 (by decide) (by omega) (by omega) (by omega) (by omega) (by omega) (by omega)]
 simp only[S.enc,h];simp
 try omega
theorem Z2l {op d a b imm:Int}(o1:1<=op)(o2:op<=36)(d1:0<=d)(d2:d<=31)(i1:0<=imm)(i2:imm<=65535)(h:S.form op=3) :
 bits .or .u32 (bits .or .u32 (op*67108864) (d*2097152)) (bits .and .u32 imm 65535)=S.enc ⟨op,d,a,b,imm⟩:=by
 rw[Zad 16 imm 65536 65535 (by decide) (by omega) (by omega) (by omega) (by omega),
  Zv 26 (op*67108864) (d*2097152) 67108864 (by decide) (by omega) (by omega) (by omega) (by omega) (by omega) (by omega),
  Zv 21 (op*67108864+d*2097152) (imm%65536) 2097152 (by decide) (by omega) (by omega) (by omega) (by omega) (by omega) (by omega)]
 simp only[S.enc,h];simp
 try omega
theorem Z2m {op d a b imm:Int}(o1:1<=op)(o2:op<=36)(a1:0<=a)(a2:a<=31)(b1:0<=b)(b2:b<=31)(i1:-32768<=imm)(i2:imm<=32767)(h:S.form op=4) :
 bits .or .u32 (bits .or .u32 (bits .or .u32 (op*67108864) (a*2097152)) (b*65536)) (bits .and .u32 (imm%4294967296) 65535)=S.enc ⟨op,d,a,b,imm⟩:=by
 rw[Zad 16 (imm%4294967296) 65536 65535 (by decide) (by omega) (by omega) (by omega) (by omega),
  Zv 26 (op*67108864) (a*2097152) 67108864 (by decide) (by omega) (by omega) (by omega) (by omega) (by omega) (by omega),
  Zv 21 (op*67108864+a*2097152) (b*65536) 2097152 (by decide) (by omega) (by omega) (by omega) (by omega) (by omega) (by omega),
  Zv 16 (op*67108864+a*2097152+b*65536) ((imm%4294967296)%65536) 65536 (by decide) (by omega) (by omega) (by omega) (by omega) (by omega) (by omega)]
 simp only[S.enc,h];simp
 try omega
theorem Z2n {op d a b imm:Int}(o1:1<=op)(o2:op<=36)(d1:0<=d)(d2:d<=31)(i1:-1048576<=imm)(i2:imm<=1048575)(h:S.form op=5) :
 bits .or .u32 (bits .or .u32 (op*67108864) (d*2097152)) (bits .and .u32 (imm%4294967296) 2097151)=S.enc ⟨op,d,a,b,imm⟩:=by
 rw[Zad 21 (imm%4294967296) 2097152 2097151 (by decide) (by omega) (by omega) (by omega) (by omega),
  Zv 26 (op*67108864) (d*2097152) 67108864 (by decide) (by omega) (by omega) (by omega) (by omega) (by omega) (by omega),
  Zv 21 (op*67108864+d*2097152) ((imm%4294967296)%2097152) 2097152 (by decide) (by omega) (by omega) (by omega) (by omega) (by omega) (by omega)]
 simp only[S.enc,h];simp
 try omega
theorem Z2o {op d a b imm:Int}(o1:1<=op)(o2:op<=36)(d1:0<=d)(d2:d<=31)(i1:0<=imm)(i2:imm<=0)(h:S.form op=6) :
 bits .or .u32 (bits .or .u32 (op*67108864) (d*2097152)) (bits .and .u32 imm 0)=S.enc ⟨op,d,a,b,imm⟩:=by
 rw[Zad 0 imm 1 0 (by decide) (by omega) (by omega) (by omega) (by omega),
  Zv 26 (op*67108864) (d*2097152) 67108864 (by decide) (by omega) (by omega) (by omega) (by omega) (by omega) (by omega),
  Zv 21 (op*67108864+d*2097152) (imm%1) 2097152 (by decide) (by omega) (by omega) (by omega) (by omega) (by omega) (by omega)]
 simp only[S.enc,h];simp
 try omega
theorem Z2p {op d a b imm:Int}(o1:1<=op)(o2:op<=36)(a1:0<=a)(a2:a<=31)(i1:0<=imm)(i2:imm<=0)(h:S.form op=7) :
 bits .or .u32 (bits .or .u32 (op*67108864) (a*2097152)) (bits .and .u32 imm 0)=S.enc ⟨op,d,a,b,imm⟩:=by
 rw[Zad 0 imm 1 0 (by decide) (by omega) (by omega) (by omega) (by omega),
  Zv 26 (op*67108864) (a*2097152) 67108864 (by decide) (by omega) (by omega) (by omega) (by omega) (by omega) (by omega),
  Zv 21 (op*67108864+a*2097152) (imm%1) 2097152 (by decide) (by omega) (by omega) (by omega) (by omega) (by omega) (by omega)]
 simp only[S.enc,h];simp
 try omega
def val (l:List Int):Int:=l.foldl (λ a x=>2*a+x) 0
namespace S
structure Item where
 kind:Int
 inst:Inst
 label:ByteArray
 word:Int
def wordOf (x:Inst):Int:=if good x=true then enc x else 0
def size (x:Item)(form:Int):Int :=
 if x.kind=2 then 0 else if x.kind=3/\form=3 then 4 else if x.kind=3 then form else if x.kind=4 then 2*form-1
 else if x.kind=5 then 2 else if x.kind=8 then x.word else 1
def regOk (n:Int):Bool:=decide (0<=n/\n<=31)
def chkItem (x:Item):Int :=
 if x.kind<1\/8<x.kind then 4
 else if x.kind=1/\chk x.inst≠0 then 11
 else if x.kind=3/\(turned x.inst.op=0\/¬(regOk x.inst.a=true)\/¬(regOk x.inst.b=true)) then 11
 else if (x.kind=4\/x.kind=5)/\¬(regOk x.inst.d=true) then 11
 else 0
def named (x:Item):Bool:=decide (x.kind=3\/x.kind=4\/x.kind=5\/x.kind=7)
def firstErr:List Item->Int
 | []=>0
 | x::r=>if chkItem x≠0 then chkItem x else firstErr r
def standsFrom (xs:List Item)(lab:ByteArray):Nat->Nat->Int
 | 0,_=>-1
 | f+1,i=>match xs[i]? with
  | none=>-1
  | some x=>if x.kind=2/\x.label=lab then i else standsFrom xs lab f (i+1)
def stands (xs:List Item)(lab:ByteArray):Int:=standsFrom xs lab xs.length 0
def Dup (xs:List Item):Prop:=∃(i:Nat)(x:Item),xs[i]?=some x/\x.kind=2/\stands xs x.label≠i
def Miss (xs:List Item):Prop:=∃(i:Nat)(x:Item),xs[i]?=some x/\named x=true/\stands xs x.label<0
def lui (tq:Int):Int:=wordOf ⟨23,25,0,0,tq/65536⟩
def ori (tq:Int):Int:=wordOf ⟨17,25,25,0,tq%65536⟩
def wordsOf (x:Item)(form at_ tq:Int):List Int :=
 if x.kind=1 then [wordOf x.inst]
 else if x.kind=3/\form=1 then [wordOf ⟨x.inst.op,0,x.inst.a,x.inst.b,tq-at_-1⟩]
 else if x.kind=3/\form=2 then [wordOf ⟨turned x.inst.op,0,x.inst.a,x.inst.b,1⟩,wordOf ⟨32,0,0,0,tq-at_-2⟩]
 else if x.kind=3 then [wordOf ⟨turned x.inst.op,0,x.inst.a,x.inst.b,3⟩,lui tq,ori tq,wordOf ⟨33,0,25,0,0⟩]
 else if x.kind=4/\form=1 then [wordOf ⟨32,x.inst.d,0,0,tq-at_-1⟩]
 else if x.kind=4 then [lui tq,ori tq,wordOf ⟨33,x.inst.d,25,0,0⟩]
 else if x.kind=5 then [wordOf ⟨23,x.inst.d,0,0,(tq+x.word)%4294967296/65536⟩,wordOf ⟨17,x.inst.d,x.inst.d,0,(tq+x.word)%4294967296%65536⟩]
 else if x.kind=6 then [x.word]
 else if x.kind=7 then [(4*tq+x.word)%4294967296]
 else if x.kind=8 then List.replicate x.word.toNat 0
 else []
def most26:Int:=67108864
def CheckRes (xs:List Item)(base r:Int):Prop :=
 ((base<0\/most26<base)/\r=2) \/
 (0<=base/\base<=most26/\firstErr xs≠0/\r=firstErr xs) \/
 (0<=base/\base<=most26/\firstErr xs=0/\Dup xs/\r=14) \/
 (0<=base/\base<=most26/\firstErr xs=0/\¬Dup xs/\Miss xs/\r=12) \/
 (0<=base/\base<=most26/\firstErr xs=0/\¬Dup xs/\¬Miss xs/\r=0)
def sizeAt (xs:List Item)(F:List Int)(i:Nat):Int :=
 match xs[i]? with
 | none=>0
 | some x=>size x (F.getD i 0)
def addr (xs:List Item)(F:List Int)(base:Int):Nat->Int
 | 0=>base
 | i+1=>addr xs F base i+sizeAt xs F i
def FormOk (xs:List Item)(F:List Int):Prop :=
 F.length=xs.length/\∀(i:Nat)(x:Item),xs[i]?=some x ->
  (x.kind=3->1<=F.getD i 0/\F.getD i 0<=3)/\(x.kind=4->1<=F.getD i 0/\F.getD i 0<=2)/\(x.kind≠3->x.kind≠4->F.getD i 0=0)
def fit (xs:List Item)(F:List Int)(base:Int)(i:Nat)(x:Item):Bool :=
 if (x.kind≠3/\x.kind≠4)\/(x.kind=3/\F.getD i 0=3)\/(x.kind=4/\F.getD i 0=2) then true
 else if x.kind=3/\F.getD i 0=1 then
  decide (-32768<=addr xs F base (stands xs x.label).toNat-addr xs F base (i+1)/\addr xs F base (stands xs x.label).toNat-addr xs F base (i+1)<=32767)
 else decide (-1048576<=addr xs F base (stands xs x.label).toNat-addr xs F base (i+1)/\addr xs F base (stands xs x.label).toNat-addr xs F base (i+1)<=1048575)
end S
theorem Zo5 (op a b:Int):S.chk ⟨S.turned op,0,a,b,0⟩=if S.turned op=0\/¬(S.regOk a=true)\/¬(S.regOk b=true) then 11 else 0:=by
 by_cases h:S.turned op=0
 .simp only[h,true_or,if_true]
  have hf:S.form 0=0:=by decide
  simp[S.chk,S.good,hf]
 .have ht:26<=S.turned op/\S.turned op<=31:=by
   revert h;unfold S.turned;grind
  have hf:S.form (S.turned op)=4:=by
   unfold S.form;grind
  have c:S.least (S.turned op)=-32768/\most (S.turned op)=32767:=by
   unfold S.least most;grind
  simp only[S.chk,S.good,hf,S.hasD,S.hasA,S.hasB,reg,S.regOk,c.1,c.2];simp[h]
  grind
theorem Zuo (d:Int):S.chk ⟨32,d,0,0,0⟩=if ¬(S.regOk d=true) then 11 else 0:=by
 have hf:S.form 32=5:=by decide
 have a:S.least 32=-1048576/\most 32=1048575:=by decide
 simp only[S.chk,S.good,hf,S.hasD,S.hasA,S.hasB,reg,S.regOk,a.1,a.2];simp
 grind
theorem Zc0 (xs:List S.Item)(lab:ByteArray):∀(f i:Nat),i+f=xs.length ->
 (S.standsFrom xs lab f i=-1/\∀(j:Nat)(x:S.Item),i<=j->xs[j]?=some x->¬(x.kind=2/\x.label=lab)) \/
 ∃(j:Nat)(x:S.Item),S.standsFrom xs lab f i=j/\i<=j/\xs[j]?=some x/\x.kind=2/\x.label=lab/\∀(m:Nat)(y:S.Item),i<=m->m<j->xs[m]?=some y->¬(y.kind=2/\y.label=lab)
 | 0,i,h=>by
  left
  refine⟨rfl,λ j x p b=>?_⟩;have:=(Yg.1 b).1;omega
 | f+1,i,h=>by
  have hi:i<xs.length:=by omega
  have b:xs[i]?=some xs[i]:=List.getElem?_eq_getElem hi;rw[S.standsFrom,b];by_cases c:xs[i].kind=2/\xs[i].label=lab
  .right
   refine⟨i,xs[i],by simp[c],Yd _,b,c.1,c.2,λ m y d k=>by omega⟩
  .simp only[c,if_false]
   rcases Zc0 xs lab f (i+1) (by omega) with⟨d,k⟩|⟨j,x,d,k,q,r,o,n⟩
   .left
    refine⟨d,λ j x p a=>?_⟩;by_cases e:j=i
    .subst e;rw[b] at a;cases a;exact c
    .exact k j x (by omega) a
   .right
    refine⟨j,x,d,by omega,q,r,o,λ m y hm l g=>?_⟩;by_cases e:m=i
    .subst e;rw[b] at g;cases g;exact c
    .exact n m y (by omega) l g
theorem Zag (xs:List S.Item)(lab:ByteArray) :
 (S.stands xs lab=-1/\∀(j:Nat)(x:S.Item),xs[j]?=some x->¬(x.kind=2/\x.label=lab)) \/
 ∃(j:Nat)(x:S.Item),S.stands xs lab=j/\xs[j]?=some x/\x.kind=2/\x.label=lab/\∀(m:Nat)(y:S.Item),m<j->xs[m]?=some y->¬(y.kind=2/\y.label=lab):=by
 rcases Zc0 xs lab xs.length 0 (by omega) with⟨a,d⟩|⟨j,x,a,_,c,e,f,b⟩
 .exact .inl ⟨a,λ j x h=>d j x (Ya2 _) h⟩
 .exact .inr ⟨j,x,a,c,e,f,λ m y hm g=>b m y (Ya2 _) hm g⟩
theorem Zgi {xs:List S.Item}{F:List Int}(hF:S.FormOk xs F)(a:∀x∈xs,0<=x.word/\x.word<=4294967295)(i:Nat):0<=S.sizeAt xs F i/\S.sizeAt xs F i<=4294967295:=by
 unfold S.sizeAt
 split
 .omega
 .rename_i x hx
  obtain⟨h3,h4,_⟩:=hF.2 i x hx;obtain⟨h5,h6⟩:=a x (List.mem_of_getElem? hx);unfold S.size
  grind
theorem Zbv {xs:List S.Item}{F:List Int}{base:Int}(hF:S.FormOk xs F)(a:∀x∈xs,0<=x.word/\x.word<=4294967295):∀i:Nat,base<=S.addr xs F base i/\S.addr xs F base i<=base+i*4294967295
 | 0=>by simp[S.addr]
 | i+1=>by
  obtain⟨h1,h2⟩:=Zbv hF a (base:=base) i;obtain⟨h3,h4⟩:=Zgi hF a i;simp only[S.addr];omega
namespace S
def opOf (w:Int):Int:=w/67108864
def rawD (w:Int):Int:=if hasD (form (opOf w))=true then w/2097152%32 else 0
def rawA (w:Int):Int:=if hasA (form (opOf w))=true then(if hasD (form (opOf w))=true then w/65536%32 else w/2097152%32) else 0
def rawB (w:Int):Int:=if hasB (form (opOf w))=true then(if hasD (form (opOf w))=true then w/2048%32 else w/65536%32) else 0
def rawI (w:Int):Int :=
 if form (opOf w)=5 then(if 1048576<=w%2097152 then w%2097152-2097152 else w%2097152)
 else if 2<=form (opOf w)/\form (opOf w)<=4 then(if least (opOf w)<0/\32768<=w%65536 then w%65536-65536 else w%65536)
 else 0
def raw (w:Int):Inst:=⟨opOf w,rawD w,rawA w,rawB w,rawI w⟩
def decB (w:Int):Bool:=good (raw w) && decide (enc (raw w)=w)
def dec (w:Int):Inst:=if decB w=true then raw w else⟨0,0,0,0,0⟩
def decE (w:Int):Int:=if decB w=true then 0 else 11
end S
theorem Zzy {x:S.Inst}(h:S.good x=true):0<=S.enc x/\S.enc x<=4294967295:=by
 obtain⟨op,d,a,b,imm⟩:=x;obtain⟨o1,o2,d1,d2,a1,a2,b1,b2,e⟩:=Zer h;rcases e with⟨h,_,_,_,_,i1,c⟩|⟨h,_,_,_,_,i1,c⟩|⟨h,_,_,_,_,i1,c⟩|⟨h,_,_,_,_,i1,c⟩|⟨h,_,_,_,_,i1,c⟩|⟨h,_,_,_,_,i1,c⟩|⟨h,_,_,_,_,i1,c⟩
 all_goals
  simp only[S.enc,h];simp;omega
theorem Zxu {x:S.Inst}(h:S.good x=true):S.raw (S.enc x)=x:=by
 obtain⟨op,d,a,b,imm⟩:=x;have hg:=h;obtain⟨o1,o2,d1,d2,a1,a2,b1,b2,o⟩:=Zer h;simp only[S.good,Yq,decide_eq_true_eq,reg] at hg;obtain⟨⟨⟨⟨⟨_,l⟩,m⟩,n⟩,g5⟩,g6⟩:=hg;clear h;rcases o with⟨h,f,hA,c,i,i1,j⟩|⟨h,f,hA,c,i,i1,j⟩|⟨h,f,hA,c,i,i1,j⟩|⟨h,f,hA,c,i,i1,j⟩|⟨h,f,hA,c,i,i1,j⟩|⟨h,f,hA,c,i,i1,j⟩|⟨h,f,hA,c,i,i1,j⟩
 all_goals
  rw[f] at l;rw[hA] at m;rw[c] at n;simp at l m n;have k:S.opOf (S.enc ⟨op,d,a,b,imm⟩)=op:=by
   simp only[S.opOf,S.enc,h];simp;omega
  simp only[S.raw,S.rawD,S.rawA,S.rawB,S.rawI,k,f,hA,c];simp only[S.enc,h];simp;clear k
 .omega
 .have e:=Zc9 op
  by_cases g:S.least op<0
  .have hm:S.least op=-32768/\most op=32767:=by
    have:op≠32/\op≠23:=by omega
    revert g;unfold S.least most;grind
   simp only[g,true_and];refine⟨by omega,by omega,?_⟩
   split <;> omega
  .simp only[g,false_and,if_false]
   refine⟨by omega,by omega,by omega⟩
 .have g:¬S.least op<0:=by
   have:S.least op=0/\most op=65535:=by
    have e:op=23:=by have:=Zc9 op;omega
    subst e;decide
   omega
  simp only[g,false_and,if_false];refine⟨by omega,by omega,by omega⟩
 .have g:S.least op<0:=by
   have e:=Zc9 op;have:S.least op=-32768:=by unfold S.least;grind
   omega
  simp only[g,true_and];refine⟨by omega,by omega,by omega,?_⟩
  split <;> omega
 .refine⟨by omega,by omega,?_⟩
  split <;> omega
 .omega
 .omega
theorem Zqt {x:S.Inst}(h:S.good x=true):S.dec (S.enc x)=x/\S.decE (S.enc x)=0:=by
 have a:=Zxu h;have hd:S.decB (S.enc x)=true:=by
  unfold S.decB;rw[a,h];simp
 unfold S.dec S.decE;rw[hd,a];simp
theorem Zxv {w:Int}(h:S.decB w=false):S.dec w=⟨0,0,0,0,0⟩/\S.decE w=11:=by
 unfold S.dec S.decE;rw[h];simp
theorem Zup {w:Int}(h:S.decB w=true):S.good (S.dec w)=true/\S.enc (S.dec w)=w/\S.decE w=0:=by
 have e:S.dec w=S.raw w:=by unfold S.dec;rw[h];simp
 rw[e];unfold S.decE;rw[h];simp only[S.decB,Yq,decide_eq_true_eq] at h;exact⟨h.1,h.2,by simp⟩
namespace S
def Stable (xs:List Item)(base:Int)(G:List Int):Prop:=FormOk xs G/\∀(i:Nat)(x:Item),xs[i]?=some x->fit xs G base i x=true
def Inv (xs:List Item)(base:Int)(F:List Int):Prop:=FormOk xs F/\∀G,Stable xs base G->∀i,F.getD i 0<=G.getD i 0
def startForm (x:Item):Int:=if x.kind=3\/x.kind=4 then 1 else 0
def FormsRes (xs:List Item)(base e:Int)(F:List Int):Prop :=
 (e≠0/\CheckRes xs base e/\F=[]) \/
 (CheckRes xs base 0/\e=3/\F=[]/\∃G,Inv xs base G/\most26<addr xs G base xs.length) \/
 (CheckRes xs base 0/\e=0/\Inv xs base F/\Stable xs base F/\addr xs F base xs.length<=most26)
end S
theorem Zo6 (xs:List S.Item)(base:Int):S.Inv xs base (xs.map S.startForm):=by
 have hg:∀(i:Nat)(x:S.Item),xs[i]?=some x->(xs.map S.startForm).getD i 0=S.startForm x:=by
  intro i x a;simp[Yh,a]
 refine⟨⟨by simp,λ i x a=>?_⟩,λ G b i=>?_⟩
 .rw[hg i x a]
  unfold S.startForm
  grind
 .cases a:xs[i]? with
  | none =>
   simp[Yh,a];have:G[i]?=none:=by
    rw[List.getElem?_eq_none_iff] at a⊢;rw[b.1.1];exact a
   simp[this]
  | some x =>
   rw[hg i x a];obtain⟨h3,h4,h5⟩:=b.1.2 i x a;unfold S.startForm
   grind
theorem Zqu {x:S.Item}{f g:Int}(h:f<=g)(h3:x.kind=3->1<=f/\g<=3):S.size x f<=S.size x g:=by
 unfold S.size
 grind
theorem Zgj {xs:List S.Item}{F G:List Int}{base:Int}(hF:S.FormOk xs F)(a:S.FormOk xs G)(h:∀i,F.getD i 0<=G.getD i 0)(p:Nat) :
 ∀d:Nat,S.addr xs F base (p+d)-S.addr xs F base p<=S.addr xs G base (p+d)-S.addr xs G base p
 | 0=>by simp
 | d+1=>by
  have ih:=Zgj (base:=base) hF a h p d;have hs:S.sizeAt xs F (p+d)<=S.sizeAt xs G (p+d):=by
   unfold S.sizeAt
   cases hx:xs[p+d]? with
   | none=>simp
   | some x =>
    exact Zqu (h (p+d)) λ b=>⟨((hF.2 _ x hx).1 b).1,((a.2 _ x hx).1 b).2⟩
  show S.addr xs F base (p+d)+S.sizeAt xs F (p+d)-S.addr xs F base p<=S.addr xs G base (p+d)+S.sizeAt xs G (p+d)-S.addr xs G base p
  omega
theorem Zgk {xs:List S.Item}{F:List Int}{base:Int}(hF:S.FormOk xs F)(a:∀x∈xs,0<=x.word/\x.word<=4294967295)(p:Nat) :
 ∀d:Nat,S.addr xs F base p<=S.addr xs F base (p+d)
 | 0=>by simp
 | d+1=>by
  have ih:=Zgk (base:=base) hF a p d;have:=(Zgi hF a (p+d)).1
  show S.addr xs F base p<=S.addr xs F base (p+d)+S.sizeAt xs F (p+d)
  omega
theorem Zuq {xs:List S.Item}{F G:List Int}{base:Int}(hF:S.FormOk xs F)(b:S.FormOk xs G)(g:∀x∈xs,0<=x.word/\x.word<=4294967295)(h:∀i,F.getD i 0<=G.getD i 0)
 {i:Nat} {x:S.Item} (k:xs[i]?=some x) (hi:F.getD i 0=G.getD i 0) (hf:S.fit xs F base i x=false):S.fit xs G base i x=false:=by
 have l:=(Yg.1 k).1;unfold S.fit at hf⊢;rw[<- hi]
 split
 .rename_i c;rw[if_pos c] at hf;cases hf
 .rename_i c
  rw[if_neg c] at hf;generalize (S.stands xs x.label).toNat=j at *;rcases Nat.lt_or_ge i j with a|a
  .obtain⟨d,rfl⟩:∃d,j=(i+1)+d:=⟨j-(i+1),by omega⟩
   have e:=Zgj (base:=base) hF b h (i+1) d;have f:=Zgk (base:=base) hF g (i+1) d;by_cases c2:x.kind=3/\F.getD i 0=1
   .rw[if_pos c2] at hf⊢
    rw[decide_eq_false_iff_not] at hf⊢;omega
   .rw[if_neg c2] at hf⊢
    rw[decide_eq_false_iff_not] at hf⊢;omega
  .obtain⟨d,hd⟩:∃d,i+1=j+d:=⟨i+1-j,by omega⟩
   have e:=Zgj (base:=base) hF b h j d;have f:=Zgk (base:=base) hF g j d;rw[<- hd] at e f;by_cases c2:x.kind=3/\F.getD i 0=1
   .rw[if_pos c2] at hf⊢
    rw[decide_eq_false_iff_not] at hf⊢;omega
   .rw[if_neg c2] at hf⊢
    rw[decide_eq_false_iff_not] at hf⊢;omega
theorem Zas {F:List Int}{i:Nat}{v:Int}(h:i<F.length):(F.set i v).getD i 0=v:=by simp[h]
theorem Z6 {F:List Int}{i j:Nat}{v:Int}(h:i≠j):(F.set i v).getD j 0=F.getD j 0:=by simp[List.getElem?_set_ne h]
theorem Zkr {xs:List S.Item}{F:List Int}{base:Int}(hF:S.FormOk xs F){i:Nat}{x:S.Item}(f:xs[i]?=some x)(hf:S.fit xs F base i x=false) :
 (x.kind=3/\1<=F.getD i 0/\F.getD i 0<=2)\/(x.kind=4/\F.getD i 0=1):=by
 obtain⟨b,d,_⟩:=hF.2 i x f;unfold S.fit at hf
 split at hf
 .cases hf
 .rename_i c
  by_cases a:x.kind=3
  .have:=b a;left;refine⟨a,by omega,?_⟩;by_cases e:F.getD i 0=3
   .exact absurd (.inr (.inl ⟨a,e⟩)) c
   .omega
  .by_cases k4:x.kind=4
   .have:=d k4;right;refine⟨k4,?_⟩;by_cases e:F.getD i 0=2
    .exact absurd (.inr (.inr ⟨k4,e⟩)) c
    .omega
   .exact absurd (.inl ⟨a,k4⟩) c
theorem Zml {xs:List S.Item}{F:List Int}(hF:S.FormOk xs F){i:Nat}{x:S.Item}(c:xs[i]?=some x)(h:(x.kind=3/\1<=F.getD i 0/\F.getD i 0<=2)\/(x.kind=4/\F.getD i 0=1)) :
 S.FormOk xs (F.set i (F.getD i 0+1)):=by
 have a:=(Yg.1 c).1;refine⟨by rw[List.length_set];exact hF.1,λ j y b=>?_⟩;by_cases e:i=j
 .subst e
  rw[c] at b;cases b;rw[Zas (by rw[hF.1];exact a)];omega
 .rw[Z6 e]
  exact hF.2 j y b
theorem Zur {xs:List S.Item}{base:Int}{F f:List Int}(g:S.Inv xs base F)(b:S.Inv xs base f)(m:∀x∈xs,0<=x.word/\x.word<=4294967295)
 {i:Nat} {x:S.Item} (c:xs[i]?=some x) (a:f.getD i 0=F.getD i 0) (hf:S.fit xs F base i x=false):S.Inv xs base (f.set i (f.getD i 0+1)):=by
 have h:=(Yg.1 c).1;have k:=Zkr g.1 c hf;rw[<- a] at k;refine⟨Zml b.1 c k,λ G d j=>?_⟩;by_cases e:i=j
 .subst e
  rw[Zas (by rw[b.1.1];exact h)];have l:=g.2 G d i;rw[a];by_cases n:F.getD i 0=G.getD i 0
  .have:=Zuq g.1 d.1 m (g.2 G d) c n hf
   rw[d.2 i x c] at this
   cases this
  .omega
 .rw[Z6 e]
  exact b.2 G d j
theorem Zks {xs:List S.Item}{base r s:Int}(h:S.CheckRes xs base r)(k:S.CheckRes xs base s):r=s:=by
 unfold S.CheckRes at h k;rcases h with⟨a,b⟩|⟨a,b,d,e⟩|⟨a,b,d,e,i⟩|⟨a,b,d,e,i,l⟩|⟨a,b,d,e,i,l⟩ <;>
 rcases k with⟨c,k2⟩|⟨c,k2,g,f⟩|⟨c,k2,g,f,j⟩|⟨c,k2,g,f,j,m⟩|⟨c,k2,g,f,j,m⟩ <;>
 first
  | omega
  | (exact absurd ‹S.Dup xs› ‹¬S.Dup xs›)
  | (exact absurd ‹S.Miss xs› ‹¬S.Miss xs›)
theorem Zeh {F G:List Int}(h:F.length=G.length)(k:∀i,F.getD i 0=G.getD i 0):F=G:=by
 apply List.ext_getElem h
 intro i a b;have:=k i
 simpa[a,b] using this
def Zqv (F:List Int):Nat:=(F.map λ f=>(3-f).toNat).sum
theorem Zus {F:List Int}{i:Nat}(h:i<F.length)(a:F.getD i 0<=2):Zqv (F.set i (F.getD i 0+1))<Zqv F:=by
 induction F generalizing i with
 | nil=>simp at h
 | cons f F ih =>
  cases i with
  | zero=>simp[Zqv] at *;omega
  | succ i =>
   have:=ih (i:=i) (by simpa using h) (by simpa using a);simp[Zqv] at *;omega
theorem Zjp {xs:List S.Item}{k:Nat}{x:S.Item}(a:xs[k]?=some x):S.firstErr (xs.drop k)=if S.chkItem x≠0 then S.chkItem x else S.firstErr (xs.drop (k+1)):=by
 have b:=(Yg.1 a).1;have c:=(Yg.1 a).2;rw[List.drop_eq_getElem_cons b,c,S.firstErr]
theorem Zkt {xs:List S.Item}{base:Int}(h:S.CheckRes xs base 0){i:Nat}{x:S.Item}(b:xs[i]?=some x)(c:S.named x=true):0<=S.stands xs x.label:=by
 rcases h with⟨_,h⟩|⟨_,_,h,h'⟩|⟨_,_,_,_,h⟩|⟨_,_,_,_,_,h⟩|⟨_,_,_,_,hm,_⟩
 .omega
 .omega
 .omega
 .omega
 .have:¬S.stands xs x.label<0:=λ a=>hm ⟨i,x,b,c,a⟩
  omega
theorem Zxw {xs:List S.Item}{base:Int}(h:S.CheckRes xs base 0):0<=base/\base<=67108864:=by
 rcases h with⟨_,h⟩|⟨h0,a,_⟩|⟨h0,a,_⟩|⟨h0,a,_⟩|⟨h0,a,_⟩
 .omega
 all_goals exact⟨h0,a⟩
