/- Parts. -/
import Derived.Test.YtldbnjajjfgipaaGreatDoorZQa
import Derived.Great.BuildSlice
set_option linter.all false
open List renaming length_cons->Yj,cons_append->Y8,take_succ_cons->Yai,take_zero->Yax
open Option renaming isSome_iff_exists->Yad
namespace Go.Proofs.YtldbnjajjfgipaaGreatDoor
open S Go.RowKit
abbrev Zv:=Nat->Option Nat
mutual
def RepV (H:Zv)(w:World):S.AV->Value->Prop
 | .int k n,v=>v=.int k n
 | .bool b,v=>v=.bool b
 | .str s,v=>v=.string s
 | .fn f,v=>v=.func (.func f) #[] #[]
 | .row n cs,v=>∃A c,v=.slice A n c/\(n=0->cs=[])/\(A=none->n=0)/\(cs=[]\/∃b o h,A=some ⟨b,o,none⟩/\H b=some h/\o+cs.length<=h/\RepC H w cs b o)
 | .agg cs,v=>∃vs:List Value,v=.agg vs.toArray/\RepL H w cs vs
 | .tup xs,v=>∃vs:List Value,v=.tuple vs.toArray/\RepT H w xs vs
 | .box _ _,_=>False
 | .ptr cs off,v=>∃b o h,v=.pointer (some ⟨b,o+off,none⟩)/\H b=some h/\o+cs.length<=h/\RepC H w cs b o
 | .any,_=>True
def RepL (H:Zv)(w:World):List S.AV->List Value->Prop
 | [],vs=>vs=[]
 | x::r,vs=>∃v rs,vs=v::rs/\x.cell=true/\RepV H w x v/\RepL H w r rs
def RepT (H:Zv)(w:World):List S.AV->List Value->Prop
 | [],vs=>vs=[]
 | x::r,vs=>∃v rs,vs=v::rs/\RepV H w x v/\RepT H w r rs
def RepC (H:Zv)(w:World):List S.AV->Nat->Nat->Prop
 | [],_,_=>True
 | x::r,b,o=>x.cell=true/\(∃v,w.cell? ⟨b,o,none⟩=some v/\RepV H w x v)/\RepC H w r b (o+1)
end
def Stay (H:Zv)(w:World)(H':Zv)(w':World):Prop:=∀b h,H b=some h->∃h',H' b=some h'/\h<=h'/\∀o,o<h->w'.cell? ⟨b,o,none⟩=w.cell? ⟨b,o,none⟩
theorem Stay.refl (H:Zv)(w:World):Stay H w H w:=λ b h e=>⟨h,e,Nat.le_refl _,λ _ _=>rfl⟩
mutual
theorem RepV.stay {H p:Zv}{w w':World}(g:Stay H w p w'):∀(x:S.AV)(v:Value),RepV H w x v->RepV p w' x v
 | .int _ _,v,h | .bool _,v,h | .str _,v,h | .fn _,v,h=>by
  rw[RepV] at h⊢;exact h
 | .row n cs,v,h=>by
  rw[RepV] at h⊢;obtain⟨A,c,e,h0,h1,h2⟩:=h;refine⟨A,c,e,h0,h1,?_⟩;rcases h2 with h2|⟨b,o,k,hA,i,m,l⟩
  .exact .inl h2
  .obtain⟨j,f,q,d⟩:=g b k i
   exact .inr ⟨b,o,j,hA,f,by omega,RepC.stay g cs b o k m d l⟩
 | .agg cs,v,h=>by
  rw[RepV] at h⊢;obtain⟨vs,e,h⟩:=h;exact⟨vs,e,RepL.stay g cs vs h⟩
 | .tup xs,v,h=>by
  rw[RepV] at h⊢;obtain⟨vs,e,h⟩:=h;exact⟨vs,e,RepT.stay g xs vs h⟩
 | .box _ _,v,h=>by
  rw[RepV] at h;exact h.elim
 | .ptr cs off,v,h=>by
  rw[RepV] at h⊢;obtain⟨b,o,k,e,i,m,l⟩:=h;obtain⟨j,f,q,d⟩:=g b k i;exact⟨b,o,j,e,f,by omega,RepC.stay g cs b o k m d l⟩
 | .any,v,h=>by
  rw[RepV]
  trivial
theorem RepL.stay {H c:Zv}{w w':World}(b:Stay H w c w'):∀(xs:List S.AV)(vs:List Value),RepL H w xs vs->RepL c w' xs vs
 | [],vs,h=>by
  rw[RepL] at h⊢;exact h
 | x::r,vs,h=>by
  rw[RepL] at h⊢;obtain⟨v,rs,e,d,h1,h2⟩:=h;exact⟨v,rs,e,d,RepV.stay b x v h1,RepL.stay b r rs h2⟩
theorem RepT.stay {H c:Zv}{w w':World}(b:Stay H w c w'):∀(xs:List S.AV)(vs:List Value),RepT H w xs vs->RepT c w' xs vs
 | [],vs,h=>by
  rw[RepT] at h⊢;exact h
 | x::r,vs,h=>by
  rw[RepT] at h⊢;obtain⟨v,rs,e,h1,h2⟩:=h;exact⟨v,rs,e,RepV.stay b x v h1,RepT.stay b r rs h2⟩
theorem RepC.stay {H d:Zv}{w w':World}(c:Stay H w d w'):∀(xs:List S.AV)(b o k:Nat),o+xs.length<=k->(∀o,o<k->w'.cell? ⟨b,o,none⟩=w.cell? ⟨b,o,none⟩)->RepC H w xs b o->RepC d w' xs b o
 | [],b,o,k,_,_,h=>by
  rw[RepC]
  trivial
 | x::r,b,o,k,hk,hcell,h=>by
  rw[RepC] at h⊢;obtain⟨f,⟨v,e,h1⟩,h2⟩:=h;rw[Yj] at hk;exact⟨f,⟨v,by rw[hcell o (by omega)];exact e,RepV.stay c x v h1⟩,RepC.stay c r b (o+1) k (by omega) hcell h2⟩
end
theorem RepL.length {H:Zv}{w:World}:∀{xs:List S.AV} {vs:List Value},RepL H w xs vs->vs.length=xs.length
 | [],vs,h=>by rw[RepL] at h;subst h;rfl
 | x::r,vs,h=>by
  rw[RepL] at h;obtain⟨v,rs,rfl,_,_,h2⟩:=h;rw[Yj,Yj,RepL.length h2]
theorem RepL.append {H:Zv}{w:World}:∀{xs ys:List S.AV} {vs b:List Value},RepL H w xs vs->RepL H w ys b->RepL H w (xs++ys) (vs++b)
 | [],ys,vs,b,h,k=>by rw[RepL] at h;subst h;exact k
 | x::r,ys,vs,b,h,k=>by
  rw[RepL] at h;obtain⟨v,rs,rfl,c,h1,h2⟩:=h;rw[Y8,Y8,RepL];exact⟨v,rs++b,rfl,c,h1,RepL.append h2 k⟩
theorem RepL.take {H:Zv}{w:World}:∀{xs:List S.AV} {vs:List Value} (n:Nat),RepL H w xs vs->RepL H w (xs.take n) (vs.take n)
 | xs,vs,0,h=>by rw[Yax,Yax,RepL]
 | [],vs,n+1,h=>by rw[RepL] at h;subst h;rw[List.take_nil,RepL,List.take_nil]
 | x::r,vs,n+1,h=>by
  rw[RepL] at h;obtain⟨v,rs,rfl,b,h1,h2⟩:=h;rw[Yai,Yai,RepL];exact⟨v,_,rfl,b,h1,RepL.take n h2⟩
theorem RepL.drop {H:Zv}{w:World}:∀{xs:List S.AV} {vs:List Value} (n:Nat),RepL H w xs vs->RepL H w (xs.drop n) (vs.drop n)
 | xs,vs,0,h=>h
 | [],vs,n+1,h=>by rw[RepL] at h;subst h;rw[List.drop_nil,RepL,List.drop_nil]
 | x::r,vs,n+1,h=>by
  rw[RepL] at h;obtain⟨v,rs,rfl,hc,h1,h2⟩:=h;exact RepL.drop n h2
theorem RepL.at_ {H:Zv}{w:World}:∀{xs:List S.AV} {vs:List Value} {i:Nat} {x:S.AV},RepL H w xs vs->xs[i]?=some x->∃v,vs[i]?=some v/\x.cell=true/\RepV H w x v
 | [],vs,i,x,h,hi=>by simp at hi
 | y::r,vs,0,x,h,hi=>by
  rw[RepL] at h;obtain⟨v,rs,rfl,b,h1,h2⟩:=h;simp at hi;subst hi;exact⟨v,rfl,b,h1⟩
 | y::r,vs,i+1,x,h,hi=>by
  rw[RepL] at h;obtain⟨v,rs,rfl,b,h1,h2⟩:=h;obtain⟨u,c,h3⟩:=RepL.at_ h2 (by simpa using hi);exact⟨u,by simpa using c,h3⟩
theorem RepT.at_ {H:Zv}{w:World}:∀{xs:List S.AV} {vs:List Value} {i:Nat} {x:S.AV},RepT H w xs vs->xs[i]?=some x->∃v,vs[i]?=some v/\RepV H w x v
 | [],vs,i,x,h,hi=>by simp at hi
 | y::r,vs,0,x,h,hi=>by
  rw[RepT] at h;obtain⟨v,rs,rfl,h1,h2⟩:=h;simp at hi;subst hi;exact⟨v,rfl,h1⟩
 | y::r,vs,i+1,x,h,hi=>by
  rw[RepT] at h;obtain⟨v,rs,rfl,h1,h2⟩:=h;obtain⟨u,b,h3⟩:=RepT.at_ h2 (by simpa using hi);exact⟨u,by simpa using b,h3⟩
theorem RepT.length {H:Zv}{w:World}:∀{xs:List S.AV} {vs:List Value},RepT H w xs vs->vs.length=xs.length
 | [],vs,h=>by rw[RepT] at h;subst h;rfl
 | x::r,vs,h=>by
  rw[RepT] at h;obtain⟨v,rs,rfl,_,h2⟩:=h;rw[Yj,Yj,RepT.length h2]
theorem Zxr {H:Zv}{w:World}{x:S.AV}{v:Value}(b:x.cell=true)(h:RepV H w x v):v.oneCell'=true/\v.cells=#[v]:=by
 cases x <;> simp[S.AV.cell] at b
 case int=>rw[RepV] at h;subst h;exact⟨rfl,rfl⟩
 case bool=>rw[RepV] at h;subst h;exact⟨rfl,rfl⟩
 case str=>rw[RepV] at h;subst h;exact⟨rfl,rfl⟩
 case fn=>rw[RepV] at h;subst h;exact⟨rfl,rfl⟩
 case row =>
  rw[RepV] at h;obtain⟨A,c,rfl,_⟩:=h;exact⟨rfl,rfl⟩
theorem RepL.one {H:Zv}{w:World}:∀{xs:List S.AV} {vs:List Value},RepL H w xs vs->∀v∈vs,v.oneCell'=true
 | [],vs,h,v,b=>by rw[RepL] at h;subst h;cases b
 | x::r,vs,h,v,b=>by
  rw[RepL] at h;obtain⟨u,rs,rfl,c,h1,h2⟩:=h;rcases List.mem_cons.1 b with rfl|b
  .exact(Zxr c h1).1
  .exact RepL.one h2 v b
theorem Zjw {H:Zv}{w:World}{x:S.AV}{v:Value}{cs:List S.AV}(h:RepV H w x v)(b:x.cells=some cs):∃vs,v.cells=vs.toArray/\RepL H w cs vs:=by
 have one:x.cell=true->some [x]=some cs->∃vs,v.cells=vs.toArray/\RepL H w cs vs:=λ h1 h2=>by
  cases h2
  refine⟨[v],by rw[(Zxr h1 h).2],?_⟩;rw[RepL];exact⟨v,[],rfl,h1,h,by rw[RepL]⟩
 cases x <;> simp only[S.AV.cells] at b
 case int=>exact one rfl b
 case bool=>exact one rfl b
 case str=>exact one rfl b
 case fn=>exact one rfl b
 case row=>exact one rfl b
 case agg cs' =>
  cases b
  rw[RepV] at h;obtain⟨vs,rfl,h⟩:=h;exact⟨vs,rfl,h⟩
 all_goals cases b
theorem Zdf {H:Zv}{w:World}:∀{xs:List S.AV} {b o:Nat},RepC H w xs b o->∃vs,RepL H w xs vs/\w.rangeAt b o vs
 | [],b,o,_=>⟨[],by rw[RepL],λ j v h=>by simp at h⟩
 | x::r,b,o,h=>by
  rw[RepC] at h;obtain⟨f,⟨v,d,h1⟩,h2⟩:=h;obtain⟨vs,h3,e⟩:=Zdf h2;refine⟨v::vs,by rw[RepL];exact⟨v,vs,rfl,f,h1,h3⟩,λ j u c=>?_⟩
  cases j with
  | zero=>simp at c;subst c;exact d
  | succ j=>rw[show o+(j+1)=o+1+j by omega];exact e j u (by simpa using c)
theorem Zjx {H:Zv}{w:World}:∀{xs:List S.AV} {vs:List Value} {b o:Nat},RepL H w xs vs->w.rangeAt b o vs->RepC H w xs b o
 | [],vs,b,o,_,_=>by rw[RepC];trivial
 | x::r,vs,b,o,h,hr=>by
  rw[RepL] at h;obtain⟨v,rs,rfl,d,h1,h2⟩:=h;rw[RepC];refine⟨d,⟨v,hr 0 v rfl,h1⟩,Zjx h2 λ j u c=>?_⟩;rw[show o+1+j=o+(j+1) by omega];exact hr (j+1) u (by simpa using c)
def TailOk (H:Zv)(w:World)(B:Nat)(y:TypeId×Nat)(x:S.AV)(v:Value):Prop:=∃n cs,x=.row n cs /\
 ((v=.slice none 0 0/\n=0)\/∃g cap cur,v=.slice (some ⟨g,0,none⟩) n cap/\B<=g/\H g=some cs.length/\w.heap[g]?=some (.cells cur y.1 (0,0))/\n<=cap/\cap<=maxLen/\cur.size=cap*y.2/\cs.length=n*y.2/\0<y.2)
def Zxs (H:Zv)(w:World)(φ:Nat->Nat)(s:St)(x:S.AV)(v:Value):Prop:=(∃i off,x=.box i off/\(s.hp i).isSome=true/\v=.pointer (some ⟨φ i,off,none⟩))\/RepV H w x v
def Bk (w:World)(b:Nat):Prop:=∃cs T,w.heap[b]?=some (.cells cs T (0,0))
theorem Bk.lt {w:World}{b:Nat}(h:Bk w b):b<w.heap.size:=by
 obtain⟨_,_,h⟩:=h;exact(Array.getElem?_eq_some_iff.1 h).1
theorem Bk.of {w w':World}{b:Nat}(h:Bk w b)(e:w'.heap[b]?=w.heap[b]?):Bk w' b:=by
 obtain⟨cs,T,h⟩:=h;exact⟨cs,T,e.trans h⟩
theorem Bk.below {w w':World}{b:Nat}(h:Bk w b)(c:Below w.heap.size w w'):Bk w' b:=h.of (c.block b h.lt)
structure Gam (B N:Nat)(w0:World)(H0:Zv)(s:St)(a:Act)(w:World)(H:Zv)(φ:Nat->Nat):Prop where
 bel:Below B w0 w
 base:B<=w.heap.size
 old:∀b,b<B->H b=H0 b
 bnd:∀b h,H b=some h->Bk w b
 size:a.tmps.size=N
 defs:a.defers=[]
 slot:∀t x,s.sl t=some x->Zxs H w φ s x (a.tmps.getD t undef)
 ent:∀i e cs,s.hp i=some (e,cs)->B<=φ i/\H (φ i)=none/\∃vs:List Value,w.heap[φ i]?=some (.cells vs.toArray e (0,0))/\RepL H w cs vs
 inj:∀i j,(s.hp i).isSome=true->(s.hp j).isSome=true->φ i=φ j->i=j
 tail:∀t y,s.tl t=some y->∃x,s.sl t=some x/\TailOk H w B y x (a.tmps.getD t undef)
 tinj:∀t t',t≠t'->(s.tl t).isSome=true->(s.tl t').isSome=true->∀g,(a.tmps.getD t undef).ownBlock=some g->(a.tmps.getD t' undef).ownBlock=some g->False
theorem TailOk.own {H:Zv}{w:World}{B:Nat}{y:TypeId×Nat}{x:S.AV}{v:Value}(h:TailOk H w B y x v){g:Nat}(hg:v.ownBlock=some g):(∃n,H g=some n)/\B<=g:=by
 obtain⟨n,cs,rfl,⟨rfl,_⟩|⟨g',cap,b,rfl,c,d,_⟩⟩:=h
 .simp[Value.ownBlock] at hg
 .simp[Value.ownBlock] at hg
  subst hg;exact⟨⟨_,d⟩,c⟩
theorem TailOk.keep {H c:Zv}{w w':World}{B:Nat}{y:TypeId×Nat}{x:S.AV}{v:Value}(h:TailOk H w B y x v)(e:∀g,v.ownBlock=some g->w'.heap[g]?=w.heap[g]?/\c g=H g):TailOk c w' B y x v:=by
 obtain⟨n,cs,rfl,⟨rfl,h0⟩|⟨g,cap,b,rfl,d,f,hg,h1⟩⟩:=h
 .exact⟨n,cs,rfl,.inl ⟨rfl,h0⟩⟩
 .obtain⟨k1,k2⟩:=e g rfl
  exact⟨n,cs,rfl,.inr ⟨g,cap,b,rfl,d,k2.trans f,k1.trans hg,h1⟩⟩
theorem Z0s {a:Act}{d t:Nat}{v:Value}(b:d<a.tmps.size):(a.put (some d) v).tmps.getD t undef=if t=d then v else a.tmps.getD t undef:=by
 by_cases h:t=d
 .subst h
  rw[if_pos rfl];simp[Act.put,b]
 .rw[if_neg h]
  simp[Act.put,Array.getElem?_setIfInBounds_ne (Ne.symm h)]
theorem Gam.next {B N:Nat}{w0:World}{H0:Zv}{s:St}{a:Act}{w:World}{H:Zv}{φ:Nat->Nat}(h:Gam B N w0 H0 s a w H φ)
 {e:S.Eff} {w':World} {E:Zv} {φ':Nat->Nat} {dst:Option Tmp} {v:Value}
 (Y:(dst=none/\e.dst=none)\/∃d x y,dst=some d/\e.dst=some (d,x,y)/\d<N/\Zxs E w' φ' (e.apply s) x v/\∀z,y=some z->TailOk E w' B z x v /\
  ∀t g,t≠d->e.drop≠some t->(s.tl t).isSome=true->(a.tmps.getD t undef).ownBlock=some g->v.ownBlock≠some g)
 (o:Below B w w') (M:Stay H w E w') (I:∀b,b<B->E b=H b) (J:∀b n,E b=some n->Bk w' b)
 (hφ:∀i,(s.hp i).isSome=true->φ' i=φ i)
 (K:∀i t cs,(e.apply s).hp i=some (t,cs)->B<=φ' i/\E (φ' i)=none/\∃vs:List Value,w'.heap[φ' i]?=some (.cells vs.toArray t (0,0))/\RepL E w' cs vs)
 (L:∀i j,((e.apply s).hp i).isSome=true->((e.apply s).hp j).isSome=true->φ' i=φ' j->i=j)
 (V:∀t g,(∀d x y,e.dst=some (d,x,y)->t≠d)->e.drop≠some t->(s.tl t).isSome=true->(a.tmps.getD t undef).ownBlock=some g->w'.heap[g]?=w.heap[g]?/\E g=H g) :
 Gam B N w0 H0 (e.apply s) (a.put dst v) w' E φ':=by
 have T:∀i,(s.hp i).isSome=true->((e.apply s).hp i).isSome=true:=λ i hi=>by
  unfold S.Eff.apply;simp only
  split
  .split
   .rfl
   .exact hi
  .exact hi
 have A:∀x u,Zxs H w φ s x u->Zxs E w' φ' (e.apply s) x u:=λ x u hx=>by
  rcases hx with⟨i,off,rfl,hi,rfl⟩|hx
  .exact .inl ⟨i,off,rfl,T i hi,by rw[hφ i hi]⟩
  .exact .inr (RepV.stay M x u hx)
 rcases Y with⟨rfl,hn⟩|⟨d,x,y,rfl,Q,a1,hx,hy⟩
 .have q:(e.apply s).sl=s.sl:=by unfold S.Eff.apply;rw[hn]
  have W:(a.put none v)=a:=rfl;rw[W];have f:∀t z,(e.apply s).tl t=some z->s.tl t=some z/\e.drop≠some t:=λ t z k=>by
   unfold S.Eff.apply at k;rw[hn] at k;simp only at k
   split at k
   .cases k
   .rename_i hq;exact⟨k,hq⟩
  refine⟨h.bel.trans o,Nat.le_trans h.base o.size,λ b U=>(I b U).trans (h.old b U),J,h.size,h.defs,λ t u C=>A u _ (h.slot t u (by rw[<- q];exact C)),K,L,λ t z k=>?_,λ t F r C O=>?_⟩
  .obtain⟨hz1,hz2⟩:=f t z k
   obtain⟨u,hu,R⟩:=h.tail t z hz1;refine⟨u,by rw[q];exact hu,R.keep λ g hg=>V t g (λ d x y Q=>by rw[hn] at Q;cases Q) hz2 (by rw[hz1];rfl) hg⟩
  .obtain⟨z,k⟩:=Yad.1 C
   obtain⟨X,p⟩:=Yad.1 O;exact h.tinj t F r (by rw[(f t z k).1];rfl) (by rw[(f F X p).1];rfl)
 .have hds:d<a.tmps.size:=by rw[h.size];exact a1
  have m:∀t,(a.put (some d) v).tmps.getD t undef=if t=d then v else a.tmps.getD t undef:=λ t=>Z0s hds
  have q:∀t,(e.apply s).sl t=if t=d then some x else s.sl t:=λ t=>by unfold S.Eff.apply;rw[Q]
  have f:∀t,t≠d->∀z,(e.apply s).tl t=some z->s.tl t=some z/\e.drop≠some t:=λ t r z k=>by
   unfold S.Eff.apply at k;rw[Q] at k;simp only[if_neg r] at k
   split at k
   .cases k
   .rename_i hq;exact⟨k,hq⟩
  have D:(e.apply s).tl d=y:=by
   unfold S.Eff.apply;rw[Q];simp
  refine⟨h.bel.trans o,Nat.le_trans h.base o.size,λ b U=>(I b U).trans (h.old b U),J,by rw[<- h.size];simp[Act.put],h.defs,λ t u C=>?_,K,L,λ t z k=>?_,λ t F r C O g hg l=>?_⟩
  .rw[q] at C
   rw[m];by_cases c:t=d
   .rw[if_pos c] at C⊢
    cases C
    exact hx
   .rw[if_neg c] at C⊢
    exact A u _ (h.slot t u C)
  .by_cases c:t=d
   .subst c
    rw[D] at k;refine⟨x,by rw[q,if_pos rfl],?_⟩;rw[m,if_pos rfl];exact(hy z k).1
   .obtain⟨hz1,hz2⟩:=f t c z k
    obtain⟨u,hu,R⟩:=h.tail t z hz1;refine⟨u,by rw[q,if_neg c];exact hu,?_⟩;rw[m,if_neg c];exact R.keep λ g hg=>V t g (λ d' x' y' Z=>by rw[Q] at Z;cases Z;exact c) hz2 (by rw[hz1];rfl) hg
  .rw[m] at hg l
   obtain⟨z,k⟩:=Yad.1 C;obtain⟨X,p⟩:=Yad.1 O;by_cases c:t=d
   .have G:F≠d:=λ e=>r (by rw[c,e])
    rw[if_pos c] at hg;rw[if_neg G] at l;subst c;rw[D] at k;obtain⟨q1,q2⟩:=f F G X p;exact(hy z k).2 F g G q2 (by rw[q1];rfl) l hg
   .rw[if_neg c] at hg
    obtain⟨q1,q2⟩:=f t c z k;by_cases G:F=d
    .rw[if_pos G] at l
     subst G;rw[D] at p;exact(hy X p).2 t g c q2 (by rw[q1];rfl) hg l
    .rw[if_neg G] at l
     obtain⟨a0,a2⟩:=f F G X p;exact h.tinj t F r (by rw[q1];rfl) (by rw[a0];rfl) g hg l
theorem Gam.value {B N:Nat}{w0:World}{H0:Zv}{s:St}{a:Act}{w:World}{H:Zv}{φ:Nat->Nat}(h:Gam B N w0 H0 s a w H φ)
 {d:Nat} (c:d<N) {x:S.AV} {v:Value} (e:Zxs H w φ s x v):Gam B N w0 H0 ((⟨some (d,x,none),none,none⟩:S.Eff).apply s) (a.put (some d) v) w H φ :=
 h.next (.inr ⟨d,x,none,rfl,rfl,c,e,λ z b=>by cases b⟩) (Below.refl _ _) (Stay.refl _ _) (λ _ _=>rfl) h.bnd (λ _ _=>rfl) h.ent h.inj (λ _ _ _ _ _ _=>⟨rfl,rfl⟩)
section
namespace S
def constA:Value->Option AV
 | .int k n=>some (.int k n)
 | .bool b=>some (.bool b)
 | .string s=>some (.str s)
 | .slice none 0 0=>some (.row 0 [])
 | _=>none
def constsA:List Value->Option (List AV)
 | []=>some []
 | v::r=>match constA v,constsA r with
  | some x,some xs=>some (x::xs)
  | _,_=>none
def scal:AV->Option Value
 | .int k n=>some (.int k n)
 | .bool b=>some (.bool b)
 | .str s=>some (.string s)
 | _=>none
def evalA:Operand->Rd AV
 | .tmp t=>.sl t λ x=>Rd.ofOpt x
 | .const v=>Rd.ofOpt (constA v)
 | .func f=>.done (.fn f)
 | .global _=>.fail
def evalsA:List Operand->Rd (List AV)
 | []=>.done []
 | x::r=>(evalA x).bind λ v=>(evalsA r).bind λ vs=>.done (v::vs)
def partsA:List (Nat×Operand)->Rd (List (Nat×List AV))
 | []=>.done []
 | (i,x)::r=>(evalA x).bind λ v=>(Rd.ofOpt v.cells).bind λ c=>(partsA r).bind λ vs=>.done ((i,c)::vs)
def pureRun {α:Type}(P:Program):Sem α->Option α
 | .pure a=>some a
 | .program k=>pureRun P (k P)
 | _=>none
def zeroA (P:Program)(t:TypeId):Option (List AV):=match P.info? t with
 | some i=>match i.zero with
  | some z=>constsA z.cells.toList
  | none=>none
 | none=>none
def fillA (place:Nat->Option (Nat×Nat)):List AV->List (Nat×List AV)->Option (List AV)
 | cells,[]=>some cells
 | cells,(i,v)::r=>match place i with
  | none=>none
  | some (off,size)=>if v.length=size/\off+v.length<=cells.length then fillA place (cells.take off++v++cells.drop (off+v.length)) r else none
def placesA (P:Program):List Field->Option (List (Nat×Nat))
 | []=>some []
 | f::r=>match P.info? f.type,placesA P r with
  | some i,some l=>some ((f.offset,i.size)::l)
  | _,_=>none
def sizeA (P:Program)(t:TypeId):Option Nat:=(P.info? t).map (·.size)
def isAggA (P:Program)(t:TypeId):Option Bool:=(P.underlying t).map TypeDesc.isRow
def leave (N:Nat)(dst:Option Tmp)(v:AV)(y:Tail)(drop:Option Nat):Rd Eff:=match dst with
 | some d=>if d<N then .done ⟨some (d,v,y),drop,none⟩ else .fail
 | none=>.done ⟨none,none,none⟩
def fresh (N:Nat)(dst:Option Tmp)(id:Nat)(t:TypeId)(cs:List AV):Rd Eff:=match dst with
 | some d=>if d<N then .hp id λ x=>match x with
  | none=>.done ⟨some (d,.box id 0,none),none,some (id,(t,cs))⟩
  | some _=>.fail
  else .fail
 | none=>.fail
def effAssign (N:Nat)(dst:Option Tmp):Operand->Rd Eff
 | .tmp t=>(evalA (.tmp t)).bind λ v=>.tl t λ y=>match y with
  | some z=>leave N dst v (some z) (some t)
  | none=>leave N dst v none none
 | .const v=>(Rd.ofOpt (constA v)).bind λ x=>leave N dst x (match x with | .row _ _=>some (0,0) | _=>none) none
 | x=>(evalA x).bind λ v=>leave N dst v none none
def effBuild (P:Program)(N:Nat)(dst:Option Tmp)(t:TypeId)(parts:List (Nat×List AV)):Rd Eff:=match zeroA P t,P.underlying t with
 | some z,some (.struct fields)=>match placesA P fields.toList with
  | some places=>(Rd.ofOpt (fillA (places.toArray[·]?) z parts)).bind λ cs=>leave N dst (.agg cs) none none
  | none=>.fail
 | some z,some (.array _ e)=>match sizeA P e with
  | some n=>(Rd.ofOpt (fillA (λ i=>some (i*n,n)) z parts)).bind λ cs=>leave N dst (.agg cs) none none
  | none=>.fail
 | _,_=>.fail
def timesA (z:List AV):Nat->List AV
 | 0=>[]
 | n+1=>z++timesA z n
def effSlice (P:Program)(N:Nat)(dst:Option Tmp)(t:TypeId)(len:Nat)(parts:List (Nat×List AV)):Rd Eff:=match P.underlying t with
 | some (.slice e)=>match zeroA P e,sizeA P e with
  | some z,some n=>if z.length=n/\0<n/\0<len/\len*n<=16777216 then
   (Rd.ofOpt (fillA (λ i=>some (i*n,n)) (timesA z len) parts)).bind λ cs=>leave N dst (.row len cs) (some (e,n)) none
   else .fail
  | _,_=>.fail
 | _=>.fail
def loadA (P:Program)(t:TypeId)(cs:List AV)(off:Nat):Option AV:=match isAggA P t,sizeA P t with
 | some true,some n=>if off+n<=cs.length then some (.agg ((cs.drop off).take n)) else none
 | some false,_=>cs[off]?
 | _,_=>none
def effLoad (P:Program)(N:Nat)(dst:Option Tmp)(t:TypeId):AV->Rd Eff
 | .box i off=>.hp i λ x=>match x with
  | some (_,cs)=>(Rd.ofOpt (loadA P t cs off)).bind λ v=>leave N dst v none none
  | none=>.fail
 | .ptr cs off=>(Rd.ofOpt (loadA P t cs off)).bind λ v=>leave N dst v none none
 | _=>.fail
def effStore (P:Program)(dst:Option Tmp)(t:TypeId)(v:List AV):AV->Rd Eff
 | .box i off=>.hp i λ x=>match x with
  | some (e,cs)=>if dst=none/\sizeA P t=some v.length/\off+v.length<=cs.length then .done ⟨none,none,some (i,(e,cs.take off++v++cs.drop (off+v.length)))⟩ else .fail
  | none=>.fail
 | _=>.fail
def effAppend (P:Program)(N:Nat)(dst:Option Tmp)(t:TypeId)(s:Nat)(x:AV):Rd Eff:=match P.underlying t with
 | some (.slice e)=>match P.info? e with
  | some i=>match i.zero with
   | some z=>.sl s λ old=>.tl s λ y=>match old,y,x with
    | some (.row n cs),some (e',n'),.row m ds =>
     if ((e'=e/\n'=i.size)\/n'=0)/\z.cells.size=i.size/\0<i.size/\cs.length=n*i.size/\ds.length=m*i.size/\n+m<=1000000/\(n+m)*i.bytes<=140737488355328/\dst.isSome=true then leave N dst (.row (n+m) (cs++ds)) (some (e,i.size)) (some s) else .fail
    | _,_,_=>.fail
   | none=>.fail
  | none=>.fail
 | _=>.fail
def okFn (P:Program)(f:FuncId):Bool:=match P.funcs[f]? with
 | some fn => fn.body.isSome && !(fn.name == "runtime.NumGoroutine")
 | none=>false
def effCall (P:Program)(N:Nat)(call:FuncId->List AV->Option (AV×Tail))(dst:Option Tmp)(f:AV)(vs:List AV):Rd Eff:=match f with
 | .fn g=>if okFn P g=true/\vs.all AV.free=true then match call g vs with
  | some (r,y)=>leave N dst r y none
  | none=>.fail
  else .fail
 | _=>.fail
def effField (P:Program)(N:Nat)(dst:Option Tmp)(xt:TypeId)(f:Nat):AV->Rd Eff
 | .agg cs=>match P.underlying xt with
  | some (.struct fields)=>match fields[f]? with
   | some fd=>(Rd.ofOpt (loadA P fd.type cs fd.offset)).bind λ v=>leave N dst v none none
   | none=>.fail
  | _=>.fail
 | _=>.fail
def effFieldAddr (P:Program)(N:Nat)(dst:Option Tmp)(xt:TypeId)(f:Nat):AV->Rd Eff
 | .box i off=>match P.underlying xt with
  | some (.struct fields)=>match fields[f]? with
   | some fd=>match sizeA P fd.type with
    | some (n+1)=>.hp i λ x=>match x with
     | some _=>leave N dst (.box i (off+fd.offset)) none none
     | none=>.fail
    | _=>.fail
   | none=>.fail
  | _=>.fail
 | _=>.fail
def effIndexAddr (P:Program)(N:Nat)(dst:Option Tmp)(t:TypeId)(x ix:AV):Rd Eff:=match P.underlying t,x,ix with
 | some (.slice e),.row n cs,.int _ i=>match sizeA P e with
  | some z=>if 0<=i/\i<n/\cs.length=n*z/\0<z then leave N dst (.ptr cs (i.toNat*z)) none none else .fail
  | none=>.fail
 | some (.array n e),.box b off,.int _ i=>match sizeA P e with
  | some z=>if 0<=i/\i<n then .hp b λ x=>match x with
   | some _=>leave N dst (.box b (off+i.toNat*z)) none none
   | none=>.fail
   else .fail
  | none=>.fail
 | _,_,_=>.fail
def effOne (P:Program)(N:Nat)(call:FuncId->List AV->Option (AV×Tail))(id:Nat)(o:Oper):Rd Eff:=match o.op with
 | .move x=>effAssign N o.dst x
 | .assign x=>effAssign N o.dst x
 | .pick c x y=>(evalA c).bind λ v=>match v with
  | .bool b=>(evalA (if b=true then x else y)).bind λ u=>leave N o.dst u none none
  | _=>.fail
 | .alloc t=>match zeroA P t with
  | some cs=>fresh N o.dst id t cs
  | none=>.fail
 | .box t x=>(evalA x).bind λ v=>(Rd.ofOpt v.cells).bind λ cs=>fresh N o.dst id t cs
 | .build t ps=>(partsA ps.toList).bind λ vs=>effBuild P N o.dst t vs
 | .buildSlice t len ps=>(partsA ps.toList).bind λ vs=>effSlice P N o.dst t len vs
 | .load t x=>(evalA x).bind λ v=>effLoad P N o.dst t v
 | .store t x y=>(evalA x).bind λ v=>(evalA y).bind λ u=>(Rd.ofOpt u.cells).bind λ cs=>effStore P o.dst t cs v
 | .binOp op xt x y _=>(evalA x).bind λ v=>(evalA y).bind λ u=>(Rd.ofOpt (scal v)).bind λ v'=>(Rd.ofOpt (scal u)).bind λ u' =>
  (Rd.ofOpt (pureRun P (do eqGuard op xt x y v' u';binOp op xt v' u'))).bind λ r=>(Rd.ofOpt (constA r)).bind λ z=>leave N o.dst z none none
 | .unOp op _ x=>(evalA x).bind λ v=>(Rd.ofOpt (scal v)).bind λ v'=>(Rd.ofOpt (pureRun P (Op.unary op v'))).bind λ r=>(Rd.ofOpt (constA r)).bind λ z=>leave N o.dst z none none
 | .convert t t' x=>(evalA x).bind λ v=>(Rd.ofOpt (scal v)).bind λ v'=>(Rd.ofOpt (pureRun P (convert t t' v'))).bind λ r=>(Rd.ofOpt (constA r)).bind λ z=>leave N o.dst z none none
 | .extract x i=>(evalA x).bind λ v=>match v with
  | .tup vs=>(Rd.ofOpt vs[i]?).bind λ u=>leave N o.dst u none none
  | _=>.fail
 | .field xt x f=>(evalA x).bind λ v=>effField P N o.dst xt f v
 | .fieldAddr xt x f=>(evalA x).bind λ v=>effFieldAddr P N o.dst xt f v
 | .indexAddr t x i=>(evalA x).bind λ v=>(evalA i).bind λ u=>effIndexAddr P N o.dst t v u
 | .call c=>match c.callee with
  | .value f=>(evalA f).bind λ g=>(evalsA c.args.toList).bind λ vs=>effCall P N call o.dst g vs
  | .builtin .append=>match c.args.toList,c.argTypes.toList with
   | [.tmp s,x],[t,t']=>if t=t' then(evalA x).bind λ v=>effAppend P N o.dst t s v else .fail
   | _,_=>.fail
  | .builtin .len=>match c.args.toList,c.argTypes.toList with
   | [x],[t]=>match P.underlying t with
    | some (.slice _)=>(evalA x).bind λ v=>match v with
     | .row n _=>leave N o.dst (.int .i64 n) none none
     | _=>.fail
    | _=>.fail
   | _,_=>.fail
  | _=>.fail
 | _=>.fail
def dstOf (ops:Array Oper)(j:Nat):Option Tmp:=match ops[j]? with
 | some o=>o.dst
 | none=>none
def effOp (P:Program)(N:Nat)(call:FuncId->List AV->Option (AV×Tail))(ops:Array Oper)(id:Nat)(o:Oper):Rd Eff:=match o.guard with
 | none=>effOne P N call id o
 | some (j,want)=>match dstOf ops j with
  | some d=>(evalA (.tmp d)).bind λ v=>match v with
   | .bool b=>if b=want then effOne P N call id o else leave N o.dst .any none none
   | _=>.fail
  | none=>.fail
end S
section
variable {P:Program}{B N:Nat}{w0:World}{H0:Zv}{s:St}{a:Act}{w:World}{H:Zv}{φ:Nat->Nat}
theorem Zjy {α:Type}:∀(m:Sem α) {x:α},S.pureRun P m=some x->∀w,m.run P w=.ok x w
 | .pure a,x,h,w=>by simp[S.pureRun] at h;subst h;rfl
 | .program k,x,h,w=>by
  rw[S.pureRun] at h;exact Zjy (k P) h w
 | .load ..,x,h,w | .store ..,x,h,w | .new ..,x,h,w | .shape ..,x,h,w | .freeze ..,x,h,w | .frozen ..,x,h,w | .getObj ..,x,h,w | .setObj ..,x,h,w | .choose ..,x,h,w | .sys ..,x,h,w | .mark ..,x,h,w | .halt ..,x,h,w=>by
  simp[S.pureRun] at h
theorem Zdg {v:Value}{x:S.AV}(h:S.constA v=some x)(H:Zv)(w:World):RepV H w x v/\x.cell=true:=by
 unfold S.constA at h
 split at h <;> cases h
 .exact⟨by rw[RepV],rfl⟩
 .exact⟨by rw[RepV],rfl⟩
 .exact⟨by rw[RepV],rfl⟩
 .refine⟨?_,rfl⟩
  rw[RepV];exact⟨none,0,rfl,λ _=>rfl,λ _=>rfl,.inl rfl⟩
theorem Zdx:∀{vs:List Value} {xs:List S.AV},S.constsA vs=some xs->∀(H:Zv)(w:World),RepL H w xs vs
 | [],xs,h,H,w=>by simp[S.constsA] at h;subst h;rw[RepL]
 | v::r,xs,h,H,w=>by
  unfold S.constsA at h
  split at h
  .rename_i x ys h1 h2
   cases h
   rw[RepL];exact⟨v,r,rfl,(Zdg h1 H w).2,(Zdg h1 H w).1,Zdx h2 H w⟩
  .cases h
theorem Zie {x:S.AV}{v u:Value}(h:Zxs H w φ s x v)(b:S.scal x=some u):v=u:=by
 rcases h with⟨i,off,rfl,_⟩|h
 .simp[S.scal] at b
 .unfold S.scal at b
  split at b <;> cases b <;> rw[RepV] at h <;> exact h
theorem Zjz {x:S.AV}{v:Value}{cs:List S.AV}(h:Zxs H w φ s x v)(b:x.cells=some cs):RepV H w x v:=by
 rcases h with⟨i,off,rfl,_⟩|h
 .simp[S.AV.cells] at b
 .exact h
theorem Zr5 {x:S.AV}{v:Value}(h:Zxs H w φ s x v)(b:x.free=true):RepV H w x v:=by
 rcases h with⟨i,off,rfl,_⟩|h
 .simp[S.AV.free] at b
 .exact h
theorem Zt (b:Gam B N w0 H0 s a w H φ){x:Operand}{v:S.AV}{l:List Nat}(h:(S.evalA x).run s=some (v,l)):Zxs H w φ s v (a.eval x):=by
 cases x with
 | tmp t =>
  simp only[S.evalA,S.Rd.run] at h
  split at h
  .rename_i u l' hu
   simp only[Option.some.injEq,Prod.mk.injEq] at h;obtain⟨rfl,_⟩:=h;exact b.slot t _ (Zaf hu)
  .cases h
 | const c=>exact .inr (Zdg (Zaf h) H w).1
 | func f =>
  simp only[S.evalA,S.Rd.run,Option.some.injEq,Prod.mk.injEq] at h;obtain⟨rfl,_⟩:=h;exact .inr (by rw[RepV];rfl)
 | global g=>simp[S.evalA,S.Rd.run] at h
theorem Zle (b:Gam B N w0 H0 s a w H φ):∀{xs:List Operand} {vs:List S.AV} {l:List Nat},(S.evalsA xs).run s=some (vs,l)->vs.all S.AV.free=true->RepT H w vs (xs.map a.eval)
 | [],vs,l,h,_=>by
  simp only[S.evalsA,S.Rd.run,Option.some.injEq,Prod.mk.injEq] at h;obtain⟨rfl,_⟩:=h;rw[RepT];rfl
 | x::r,vs,l,h,hf=>by
  unfold S.evalsA at h;obtain⟨v,_,_,h1,h⟩:=Zl _ _ h;obtain⟨us,_,_,h2,h⟩:=Zl _ _ h;simp only[S.Rd.run,Option.some.injEq,Prod.mk.injEq] at h;obtain⟨rfl,_⟩:=h;rw[List.all_cons,Bool.and_eq_true] at hf;rw[RepT];exact⟨_,_,rfl,Zr5 (Zt b h1) hf.1,Zle b h2 hf.2⟩
inductive RepP (H:Zv) (w:World):List (Nat×List S.AV)->List (Nat×Value)->Prop
 | nil:RepP H w [] []
 | cons {i cs v vs r r'}:v.cells=vs.toArray->RepL H w cs vs->RepP H w r r'->RepP H w ((i,cs)::r) ((i,v)::r')
theorem Zha (d:Gam B N w0 H0 s a w H φ):∀{b:List (Nat×Operand)} {vs:List (Nat×List S.AV)} {l:List Nat},(S.partsA b).run s=some (vs,l)->RepP H w vs (b.map λ p=>(p.1,a.eval p.2))
 | [],vs,l,h=>by
  simp only[S.partsA,S.Rd.run,Option.some.injEq,Prod.mk.injEq] at h;obtain⟨rfl,_⟩:=h;exact .nil
 | (i,x)::r,vs,l,h=>by
  unfold S.partsA at h;obtain⟨v,_,_,h1,h⟩:=Zl _ _ h;obtain⟨c,_,_,h2,h⟩:=Zl _ _ h;obtain⟨us,_,_,h3,h⟩:=Zl _ _ h;simp only[S.Rd.run,Option.some.injEq,Prod.mk.injEq] at h;obtain⟨rfl,_⟩:=h;have f:=Zaf h2;obtain⟨cv,e,g⟩:=Zjw (Zjz (Zt d h1) f) f;exact .cons e g (Zha d h3)
theorem Zxt (vs:List Value)(off:Nat):∀(j:Nat)(cs:Array Value),off+j+vs.length<=cs.size ->
 ((vs.zipIdx j).foldl (λ cs (x:Value×Nat)=>cs.setIfInBounds (off+x.2) x.1) cs).toList=cs.toList.take (off+j)++vs++cs.toList.drop (off+j+vs.length):=by
 induction vs with
 | nil=>intro j cs h;simp
 | cons v r ih =>
  intro j cs h;rw[Yj] at h;rw[List.zipIdx_cons,List.foldl_cons,ih (j+1) _ (by simp;omega)];simp only[Array.toList_setIfInBounds];have b:off+j<cs.toList.length:=by simp;omega
  rw[Yj,show off+(j+1)=off+j+1 by omega];have c:(cs.toList.set (off+j) v).take (off+j+1)=cs.toList.take (off+j)++[v]:=by
   rw[List.take_set,List.take_add_one,List.getElem?_eq_getElem b];simp only[Option.toList_some];rw[List.set_append_right _ _ (by rw[List.length_take];omega)];have:off+j-(cs.toList.take (off+j)).length=0:=by simp;omega
   rw[this,List.set_cons_zero]
  have d:(cs.toList.set (off+j) v).drop (off+j+1+r.length)=cs.toList.drop (off+j+(r.length+1)):=by
   rw[List.drop_set_of_lt (by omega)]
   congr 1
   omega
  rw[c,d];simp
theorem Zmz {place:Nat->Option (Nat×Nat)}:∀{k:List (Nat×List S.AV)} {c:List (Nat×Value)} {cs out:List S.AV} {b:Array Value},RepP H w k c->RepL H w cs b.toList->S.fillA place cs k=some out->∃r,Instr.fill place b c=some r/\RepL H w out r.toList
 | _,_,cs,out,b,.nil,hc,h=>by
  simp[S.fillA] at h;subst h;exact⟨b,rfl,hc⟩
 | _,_,cs,out,b,.cons (i:=i) (cs:=pc) (v:=v) (vs:=pv) (r:=r) (r':=r') e hr hp,hc,h=>by
  unfold S.fillA at h;unfold Instr.fill
  cases hpl:place i with
  | none=>rw[hpl] at h;cases h
  | some q =>
   obtain⟨off,size⟩:=q;rw[hpl] at h;simp only at h⊢
   split at h
   .rename_i hh
    have l:=RepL.length hr;have f:=RepL.length hc;have j:v.cells.size=pc.length:=by rw[e];simp[l]
    have g:b.size=cs.length:=by rw[<- f];simp
    have d:¬((decide (v.cells.size≠size) || decide (off+v.cells.size>b.size))=true):=by
     rw[j,g];simp only[Bool.or_eq_true,decide_eq_true_eq,not_or];omega
    rw[if_neg d];refine Zmz hp ?_ h;rw[e,<- Array.foldl_toList,Array.toList_zipIdx];have:=Zxt pv off 0 b (by omega);rw[Nat.add_zero] at this;rw[this,<- l];exact RepL.append (RepL.append (RepL.take off hc) hr) (RepL.drop _ hc)
   .cases h
end
end
