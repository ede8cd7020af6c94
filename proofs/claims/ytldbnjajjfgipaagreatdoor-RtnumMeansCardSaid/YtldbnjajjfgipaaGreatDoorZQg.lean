/- Parts. -/
import Derived.Test.YtldbnjajjfgipaaGreatDoorZQd
import Derived.Laws.CopyRow
set_option linter.all false
open Nat renaming le_refl->Yb,zero_add->Yac,add_zero->Ybh,add_mul->Yco
open Go.Lib renaming cell_of_heap->Yc
open List renaming length_append->Yd,getElem?_eq_some_iff->Yg,append_assoc->Yp,length_take->Yr,replicate->Yt,eq_nil_of_length_eq_zero->Y7,getElem?_take->Ybl,ext_getElem->Yca,size_toArray->Yc3
open Go.RowKit.Below renaming refl->Yh
open Array renaming getElem?_eq_some_iff->Yw,toArray_toList->Yb0,length_toList->Yb6,getD_eq_getD_getElem?->Ycw
open Go.Result renaming andThen_ok->Y6
open Option renaming isSome_iff_exists->Yad,map_some->Yci
open Go.Sem renaming run_bind->Yah,run_pure->Yav
open Go.Region renaming wanted->Yan
open Go.Value renaming ownBlock->Yap
namespace Go.Proofs.YtldbnjajjfgipaaGreatDoor
open S Go.RowKit
section
def GamX (B N:Nat)(w0:World)(H0:Zv)(s:St)(a:Act)(w:World):Prop:=∃H φ,Gam B N w0 H0 s a w H φ
def Znb (P:Program)(B N:Nat)(w0:World)(H0:Zv)(o:Oper)(s:St)(e:Eff)(a:Act)(w:World):Prop :=
 ∀K Q,(∀a' w',GamX B N w0 H0 (e.apply s) a' w'->K a' w')->o.wp P a w K Q
section
variable {P:Program}{B N:Nat}{w0:World}{H0:Zv}{s:St}{a:Act}{w:World}{H:Zv}{φ:Nat->Nat}{o:Oper}{e:Eff}{l:List Nat}
theorem Ze6 {K:Act->World->Prop}{Q:Exit->Act->World->Prop}{v:Value}{w':World}(b:(execOp a.eval o).run P w=.ok (.value v) w')(h:K (a.put o.dst v) w'):o.wp P a w K Q:=by
 unfold Oper.wp;rw[b];exact h
theorem Ztn {K:Act->World->Prop}{Q:Exit->Act->World->Prop}{w':World}(b:(execOp a.eval o).run P w=.ok .skip w')(h:K (a.put o.dst undef) w'):o.wp P a w K Q:=by
 unfold Oper.wp;rw[b];exact h
theorem Zcr {v:AV}{y:Tail}{drop:Option Nat}{dst:Option Tmp}(h:(leave N dst v y drop).run s=some (e,l)):(dst=none/\e=⟨none,none,none⟩)\/∃d,dst=some d/\d<N/\e=⟨some (d,v,y),drop,none⟩:=by
 unfold leave at h
 split at h
 .rename_i d
  split at h
  .rename_i hd
   simp only[Rd.run,Option.some.injEq,Prod.mk.injEq] at h;exact .inr ⟨d,rfl,hd,h.1.symm⟩
  .simp[Rd.run] at h
 .simp only[Rd.run,Option.some.injEq,Prod.mk.injEq] at h
  exact .inl ⟨rfl,h.1.symm⟩
theorem Zab (b:Gam B N w0 H0 s a w H φ){v:AV}{u:Value}(g:(leave N o.dst v none none).run s=some (e,l))(i:Zxs H w φ s v u)(f:(execOp a.eval o).run P w=.ok (.value u) w):Znb P B N w0 H0 o s e a w:=by
 intro K Q h;refine Ze6 f (h _ _ ?_);rcases Zcr g with⟨h1,rfl⟩|⟨d,h1,c,rfl⟩
 .rw[h1]
  exact⟨H,φ,b⟩
 .rw[h1]
  exact⟨H,φ,b.value c i⟩
theorem Zj0 (b:Gam B N w0 H0 s a w H φ){x:Operand}(A:o.op=.assign x\/o.op=.move x)(j:(effAssign N o.dst x).run s=some (e,l)):Znb P B N w0 H0 o s e a w:=by
 have h:(execOp a.eval o).run P w=.ok (.value (a.eval x)) w:=by
  rcases A with A|A <;> (unfold execOp;simp only[A,Yav])
 cases x with
 | tmp t =>
  unfold effAssign at j;obtain⟨v,_,_,h1,h2⟩:=Zl _ _ j;simp only[Rd.run] at h2;have E:s.sl t=some v:=by
   simp only[evalA,Rd.run] at h1
   split at h1
   .rename_i u l' hu
    simp only[Option.some.injEq,Prod.mk.injEq] at h1;obtain⟨rfl,_⟩:=h1;exact Zaf hu
   .cases h1
  split at h2
  .rename_i e' l' h3
   simp only[Option.some.injEq,Prod.mk.injEq] at h2;obtain⟨rfl,_⟩:=h2
   split at h3
   .rename_i z htl
    intro K Q I;refine Ze6 h (I _ _ ?_);rcases Zcr h3 with⟨m,rfl⟩|⟨d,m,D,rfl⟩
    .rw[m]
     exact⟨H,φ,b⟩
    .rw[m]
     refine⟨H,φ,b.next (.inr ⟨d,v,_,rfl,rfl,D,?_,λ z n=>⟨?_,λ C g G q r hg k=>?_⟩⟩) (Yh _ _) (Stay.refl _ _) (λ _ _=>rfl) b.bnd (λ _ _=>rfl) b.ent b.inj (λ _ _ _ _ _ _=>⟨rfl,rfl⟩)⟩
     .exact b.slot t v E
     .cases n
      obtain⟨x',p,F⟩:=b.tail t _ htl;rw[E] at p
      cases p
      exact F
     .have hne':C≠t:=λ e=>q (by rw[e])
      exact b.tinj C t hne' r (by rw[htl];rfl) g hg k
   .exact Zab b h3 (b.slot t v E) h
  .cases h2
 | const c =>
  unfold effAssign at j;obtain⟨v,_,_,h1,h2⟩:=Zl _ _ j;have y:=Zaf h1;intro K Q I;refine Ze6 h (I _ _ ?_);rcases Zcr h2 with⟨m,rfl⟩|⟨d,m,D,rfl⟩
  .rw[m]
   exact⟨H,φ,b⟩
  .rw[m]
   have i:∀z,(match v with | .row _ _=>some ((0,0):TypeId×Nat) | _=>none)=some z->c=.slice none 0 0/\v=.row 0 []:=λ z n=>by
    unfold constA at y
    split at y <;> cases y <;> first | (simp at n;done) | exact⟨rfl,rfl⟩
   refine⟨H,φ,b.next (.inr ⟨d,v,_,rfl,rfl,D,.inr (Zdg y H w).1,λ z n=>⟨?_,λ C g G q r hg k=>?_⟩⟩) (Yh _ _) (Stay.refl _ _) (λ _ _=>rfl) b.bnd (λ _ _=>rfl) b.ent b.inj (λ _ _ _ _ _ _=>⟨rfl,rfl⟩)⟩
   .obtain⟨rfl,rfl⟩:=i z n
    exact⟨0,[],rfl,.inl ⟨rfl,rfl⟩⟩
   .obtain⟨rfl,rfl⟩:=i z n
    simp[Act.eval,Yap] at k
 | func f =>
  unfold effAssign at j;obtain⟨v,_,_,h1,h2⟩:=Zl _ _ j;exact Zab b h2 (Zt b h1) h
 | global g =>
  unfold effAssign at j;obtain⟨v,_,_,h1,h2⟩:=Zl _ _ j;exact Zab b h2 (Zt b h1) h
theorem Zlf (b:Gam B N w0 H0 s a w H φ){i:Nat}(hi:(s.hp i).isSome=true):φ i<w.heap.size:=by
 obtain⟨⟨t,cs⟩,h⟩:=Yad.1 hi;obtain⟨_,_,vs,h1,_⟩:=b.ent i t cs h;exact(Yw.1 h1).1
theorem Zdh {d:Zv}{w':World}(g:Gam B N w0 H0 s a w H φ)(f:Below w.heap.size w w')(i:∀b,b<w.heap.size->d b=H b):Stay H w d w':=λ b h e=>by
 have c:=(g.bnd b h e).lt;refine⟨h,(i b c).trans e,Yb _,λ o _=>?_⟩;exact f.cell (p:=⟨b,o,none⟩) c
theorem Zlg (f:Gam B N w0 H0 s a w H φ){id:Nat}{t:TypeId}{cs:List AV}{vs:List Value}(m:(fresh N o.dst id t cs).run s=some (e,l))(T:RepL H w cs vs)
 (O:(execOp a.eval o).run P w=.ok (.value (.pointer (some ⟨w.heap.size,0,none⟩))) (w.alloc (.cells vs.toArray t (0,0)))):Znb P B N w0 H0 o s e a w:=by
 unfold fresh at m
 split at m
 .rename_i d hdst
  split at m
  .rename_i hd
   simp only[Rd.run] at m
   split at m
   .rename_i e' l' h1
    split at h1
    .rename_i hnone
     simp only[Rd.run,Option.some.injEq,Prod.mk.injEq] at h1 m;obtain⟨rfl,_⟩:=h1;obtain⟨rfl,_⟩:=m;intro K Q R;refine Ze6 O (R _ _ ?_);have u:Below w.heap.size w (w.alloc (.cells vs.toArray t (0,0))):=(Yh _ _).alloc (Yb _) _;have p:Stay H w H (w.alloc (.cells vs.toArray t (0,0))):=Zdh f u λ _ _=>rfl
     have J:(w.alloc (.cells vs.toArray t (0,0))).heap.size=w.heap.size+1:=by show(w.heap.push _).size=_;simp
     have y:=heap_alloc_new w (.cells vs.toArray t (0,0));rw[hdst];refine⟨H,λ i=>if i=id then w.heap.size else φ i,f.next (.inr ⟨d,_,_,rfl,rfl,hd,.inl ⟨id,0,rfl,?_,?_⟩,λ z D=>by cases D⟩) (u.mono f.base) p (λ _ _=>rfl) (λ b n h=>?_) (λ i hi=>?_) (λ i C A hi=>?_) (λ i j hi G k=>?_) (λ C g _ _ F hg=>⟨?_,rfl⟩)⟩
     .unfold Eff.apply;simp
     .simp
     .exact(f.bnd b n h).below u
     .have q:i≠id:=λ e=>by rw[e,hnone] at hi;cases hi
      simp only[if_neg q]
     .unfold Eff.apply at hi
      simp only at hi;by_cases c:i=id
      .rw[if_pos c] at hi
       cases hi
       simp only[if_pos c];refine⟨f.base,?_,vs,y,RepL.stay p cs vs T⟩
       cases hH:H w.heap.size with
       | none=>rfl
       | some n=>have:=(f.bnd _ n hH).lt;omega
      .rw[if_neg c] at hi
       simp only[if_neg c];obtain⟨h2,h3,v,L,M⟩:=f.ent i C A hi;exact⟨h2,h3,v,(u.block _ (Zlf f (by rw[hi];rfl))).trans L,RepL.stay p A v M⟩
     .have hlive:∀i,i≠id->(((⟨some (d,.box id 0,none),none,some (id,(t,cs))⟩:Eff).apply s).hp i).isSome=true->(s.hp i).isSome=true:=λ i q hi=>by
       unfold Eff.apply at hi;simp only[if_neg q] at hi;exact hi
      have k:(if i=id then w.heap.size else φ i)=(if j=id then w.heap.size else φ j):=k;by_cases r:i=id
      .by_cases cj:j=id
       .rw[r,cj]
       .rw[if_pos r,if_neg cj] at k
        have:=Zlf f (hlive j cj G);omega
      .by_cases cj:j=id
       .rw[if_neg r,if_pos cj] at k
        have:=Zlf f (hlive i r hi);omega
       .rw[if_neg r,if_neg cj] at k
        exact f.inj i j (hlive i r hi) (hlive j cj G) k
     .obtain⟨z,D⟩:=Yad.1 F
      obtain⟨x,_,E⟩:=f.tail C z D;obtain⟨⟨n,I⟩,_⟩:=E.own hg;exact u.block g (f.bnd g n I).lt
    .simp[Rd.run] at h1
   .cases m
  .simp[Rd.run] at m
 .simp[Rd.run] at m
theorem Zif {t:TypeId}{cs:List AV}(h:zeroA P t=some cs):∃i z,P.info? t=some i/\i.zero=some z/\constsA z.cells.toList=some cs:=by
 unfold zeroA at h
 split at h
 .rename_i i hi
  split at h
  .rename_i z hz
   exact⟨i,z,hi,hz,h⟩
  .cases h
 .cases h
theorem Zto (d:Gam B N w0 H0 s a w H φ){id:Nat}{t:TypeId}(c:o.op=.alloc t)(b:(match zeroA P t with|some cs=>fresh N o.dst id t cs|none=>.fail).run s=some (e,l)):Znb P B N w0 H0 o s e a w:=by
 split at b
 .rename_i cs hcs
  obtain⟨i,z,hi,g,f⟩:=Zif hcs;refine Zlg d b (Zdx f H w) ?_;unfold execOp;simp only[c,Instr.alloc,zeroValue,typeInfo,Yah,run_program,Y6,hi,g,Yav,newVar,newRow,run_newObj];rfl
 .simp[Rd.run] at b
theorem Z0t (b:Gam B N w0 H0 s a w H φ){id:Nat}{t:TypeId}{x:Operand}(f:o.op=.box t x)(g:((evalA x).bind λ v=>(Rd.ofOpt v.cells).bind λ cs=>fresh N o.dst id t cs).run s=some (e,l)):Znb P B N w0 H0 o s e a w:=by
 obtain⟨v,_,_,h1,h2⟩:=Zl _ _ g;obtain⟨cs,_,_,h3,h⟩:=Zl _ _ h2;have c:=Zaf h3;obtain⟨vs,i,d⟩:=Zjw (Zjz (Zt b h1) c) c;refine Zlg b h d ?_;unfold execOp;simp only[f,Instr.box,newVar,newRow,Yah,run_newObj,Y6,Yav,i];rfl
theorem Zlh {b:Array (Nat×Operand)}:(b.map λ(i,x)=>(i,a.eval x)).toList=b.toList.map λ p=>(p.1,a.eval p.2):=by simp
theorem Zpb:∀{c:List Field} {b:List (Nat×Nat)},placesA P c=some b->c.mapM (λ f=>(P.info? f.type).map λ i=>(f.offset,i.size))=some b
 | [],b,h=>by simp[placesA] at h;subst h;rfl
 | f::r,b,h=>by
  unfold placesA at h
  split at h
  .rename_i i l h1 h2
   cases h
   rw[List.mapM_cons,h1];simp[Zpb h2]
  .cases h
theorem Ztp (m:Gam B N w0 H0 s a w H φ){t:TypeId}{g:Array (Nat×Operand)}(A:o.op=.build t g)(v:((partsA g.toList).bind λ vs=>effBuild P N o.dst t vs).run s=some (e,l)):Znb P B N w0 H0 o s e a w:=by
 obtain⟨vs,_,_,h1,h2⟩:=Zl _ _ v;have hp:=Zha m h1;rw[<- Zlh] at hp;have fin:∀(place:Nat->Option (Nat×Nat)) (z:Value) (b:List AV) (l:List Nat),constsA z.cells.toList=some b->((Rd.ofOpt (fillA place b vs)).bind λ cs=>leave N o.dst (.agg cs) none none).run s=some (e,l) ->
  (∀cells,Instr.fill place z.cells ((g.map λ(i,x)=>(i,a.eval x)).toList)=some cells->P.built t ((g.map λ(i,x)=>(i,a.eval x)).toList)=some cells)->Znb P B N w0 H0 o s e a w:=λ place z b l d h p=>by
  obtain⟨cs,_,_,h3,q⟩:=Zl _ _ h;obtain⟨r,y,f⟩:=Zmz hp (Zdx d H w) (Zaf h3);refine Zab m q (u:=.agg r) (.inr ?_) ?_
  .rw[RepV]
   exact⟨r.toList,by simp,f⟩
  .unfold execOp
   simp only[A,Yah,run_build w t _ r (p r y),Y6,Yav]
 unfold effBuild at h2
 split at h2
 .rename_i b fields d hu
  obtain⟨i,z,hi,c,j⟩:=Zif d
  split at h2
  .rename_i places hpl
   refine fin _ z b _ j h2 λ cells hf=>?_
   unfold Program.built;simp only[hi,hu,c,Zpb hpl];exact hf
  .simp[Rd.run] at h2
 .rename_i b n e' d hu
  obtain⟨i,z,hi,c,j⟩:=Zif d
  split at h2
  .rename_i k hk
   refine fin _ z b _ j h2 λ cells hf=>?_
   unfold sizeA at hk
   cases hie:P.info? e' with
   | none=>rw[hie] at hk;cases hk
   | some ie =>
    rw[hie] at hk;simp at hk;subst hk;unfold Program.built;simp only[hi,hu,c,hie];exact hf
  .simp[Rd.run] at h2
 .simp[Rd.run] at h2
end
end
section
section
variable {P:Program}{B N:Nat}{w0:World}{H0:Zv}{s:St}{a:Act}{w:World}{H:Zv}{φ:Nat->Nat}{o:Oper}{e:Eff}{l:List Nat}
theorem Zj1 (z:Array Value)(c:0<z.size):∀n:Nat,((Array.range (n*z.size)).map (z[·%z.size]!)).toList=(Yt n z.toList).flatten
 | 0=>by simp
 | n+1=>by
  have ih:=Zj1 z c n;rw[Array.toList_map,Array.toList_range] at ih⊢;rw[List.replicate_succ',List.flatten_append,<- ih,Yco,Nat.one_mul,List.range_add,List.map_append]
  congr 1
  rw[List.map_map]
  apply Yca
  .simp
  .intro i h1 h2
   simp only[List.length_map,List.length_range] at h1;have b:(n*z.size+i)%z.size=i:=by
    rw[Nat.mul_comm,Nat.mul_add_mod,Nat.mod_eq_of_lt h1]
   simp[b,h1]
theorem Zpc {z:List AV}{b:List Value}(h:RepL H w z b):∀n:Nat,RepL H w (timesA z n) ((Yt n b).flatten)
 | 0=>by rw[timesA,RepL];rfl
 | n+1=>by
  rw[timesA,List.replicate_succ,List.flatten_cons];exact RepL.append h (Zpc h n)
theorem Zgm (z:List AV):∀n:Nat,(timesA z n).length=n*z.length
 | 0=>by rw[timesA];simp
 | n+1=>by rw[timesA,Yd,Zgm z n,Yco];omega
theorem Zhx {place:Nat->Option (Nat×Nat)}:∀{b:List (Nat×List AV)} {cs out:List AV},fillA place cs b=some out->out.length=cs.length
 | [],cs,out,h=>by simp[fillA] at h;subst h;rfl
 | (i,v)::r,cs,out,h=>by
  unfold fillA at h
  split at h
  .cases h
  .split at h
   .rename_i hh
    rw[Zhx h];simp only[Yd,Yr,List.length_drop];omega
   .cases h
theorem Zcs {t:TypeId}{n:Nat}(h:sizeA P t=some n):∃i,P.info? t=some i/\i.size=n:=by
 unfold sizeA at h
 cases hi:P.info? t with
 | none=>rw[hi] at h;cases h
 | some i=>rw[hi] at h;exact⟨i,rfl,by simpa using h⟩
theorem Zxu (f:Gam B N w0 H0 s a w H φ){d:Nat}(hd:d<N){n z:Nat}{cs:List AV}{h:Array Value}{t:TypeId}{c:Nat}{w':World}{drop:Option Nat}
 (V:w'=w.alloc (.cells h t (0,0))\/w'=w.drew.alloc (.cells h t (0,0))) {xs:List Value} (Y:RepL H w cs xs) (K:h.toList.take cs.length=xs)
 (hn:n<=c) (hc:c<=maxLen) (T:h.size=c*z) (u:cs.length=n*z) (hz:0<z) :
 GamX B N w0 H0 ((⟨some (d,.row n cs,some (t,z)),drop,none⟩:Eff).apply s) (a.put (some d) (.slice (some ⟨w.heap.size,0,none⟩) n c)) w':=by
 have q:Below w.heap.size w w':=by
  rcases V with rfl|rfl
  .exact(Yh _ _).alloc (Yb _) _
  .exact⟨rfl,rfl,rfl,by show w.heap.size<=(w.heap.push _).size;simp,λ k r=>heap_alloc_old w.drew _ r⟩
 have R:w'.heap.size=w.heap.size+1:=by
  rcases V with rfl|rfl <;> (show(w.heap.push _).size=_;simp)
 have m:w'.heap[w.heap.size]?=some (.cells h t (0,0)):=by
  rcases V with rfl|rfl
  .exact heap_alloc_new w _
  .exact heap_alloc_new w.drew _
 obtain⟨D,J⟩:∃D:Zv,D=λ b=>if b=w.heap.size then some cs.length else H b:=⟨_,rfl⟩
 have h1:D w.heap.size=some cs.length:=by rw[J];simp
 have h2:∀b,b≠w.heap.size->D b=H b:=λ b q=>by rw[J];simp[q]
 have A:Stay H w D w':=Zdh f q λ b q=>h2 b (by omega)
 have p:w'.rangeAt w.heap.size 0 xs:=λ j v U=>by
  rw[Yc m,Yac];have O:j<cs.length:=by rw[<- RepL.length Y];exact(Yg.1 U).1
  rw[<- K,Ybl,if_pos O] at U
  simpa using U
 have M:RepC D w' cs w.heap.size 0:=Zjx (RepL.stay A cs xs Y) p;refine⟨D,φ,f.next (.inr ⟨d,_,_,rfl,rfl,hd,.inr ?_,λ y hy=>⟨?_,λ I g a2 a1 G hg Q=>?_⟩⟩) (q.mono f.base) A (λ b a0=>h2 b (by have:=f.base;omega)) (λ b k r=>?_) (λ _ _=>rfl) (λ i I E hi=>?_) f.inj (λ I g _ _ G hg=>?_)⟩
 .rw[RepV]
  refine⟨_,c,rfl,λ h0=>Y7 (by rw[u,h0];simp),λ h0=>(by cases h0),.inr ⟨_,0,_,rfl,h1,by omega,M⟩⟩
 .cases hy
  exact⟨n,cs,rfl,.inr ⟨_,c,h,rfl,f.base,h1,m,hn,hc,T,u,hz⟩⟩
 .simp only[Yap,Option.some.injEq] at Q
  obtain⟨W,C⟩:=Yad.1 G;obtain⟨x,_,F⟩:=f.tail I W C;obtain⟨⟨k,r⟩,_⟩:=F.own hg;have:=(f.bnd g k r).lt;omega
 .by_cases hbe:b=w.heap.size
  .rw[hbe]
   exact⟨_,_,m⟩
  .rw[h2 b hbe] at r
   exact(f.bnd b k r).below q
 .have hi':s.hp i=some (I,E):=hi
  obtain⟨h3,h4,L,h5,Z⟩:=f.ent i I E hi';have X:=Zlf f (i:=i) (by rw[hi'];rfl);exact⟨h3,(h2 _ (by omega)).trans h4,L,(q.block _ X).trans h5,RepL.stay A E L Z⟩
 .obtain⟨W,C⟩:=Yad.1 G
  obtain⟨x,_,F⟩:=f.tail I W C;obtain⟨⟨k,r⟩,_⟩:=F.own hg;have:=(f.bnd g k r).lt;exact⟨q.block g this,h2 g (by omega)⟩
theorem Ztq (c:Gam B N w0 H0 s a w H φ){t:TypeId}{len:Nat}{X:Array (Nat×Operand)}(ho:o.op=.buildSlice t len X)(he:((partsA X.toList).bind λ vs=>effSlice P N o.dst t len vs).run s=some (e,l)):Znb P B N w0 H0 o s e a w:=by
 obtain⟨vs,_,_,h1,h2⟩:=Zl _ _ he;have hp:=Zha c h1;rw[<- Zlh] at hp;unfold effSlice at h2
 split at h2
 .rename_i e' hu
  split at h2
  .rename_i z n hz hn
   split at h2
   .rename_i hh
    obtain⟨y,p,J,Y⟩:=hh;obtain⟨cs,_,_,h3,O⟩:=Zl _ _ h2;obtain⟨i,I,hi,L,hc⟩:=Zif hz;obtain⟨i',h,T⟩:=Zcs hn;rw[hi] at h
    cases h
    subst T;have D:=Zdx hc H w;have F:I.cells.size=i.size:=by rw[<- y,<- RepL.length D];simp
    have j:RepL H w (timesA z len) ((Array.range (len*i.size)).map (I.cells[·%I.cells.size]!)).toList:=by
     rw[<- F,Zj1 _ (by omega)];exact Zpc D len
    have hf:=Zaf h3;obtain⟨r,hr,C⟩:=Zmz hp j hf;have f:cs.length=len*i.size:=by rw[Zhx hf,Zgm,y]
    have W:0<len*i.size:=Nat.mul_pos J p;have u:(execOp a.eval o).run P w=.ok (.value (.slice (some ⟨w.heap.size,0,none⟩) len len)) (w.alloc (.cells r e')):=by
     unfold execOp;simp only[ho,Yah,run_buildSlice w t e' len _ r i I hu hi L (by omega) (by omega) hr,Y6,Yav]
    intro K Q hK;refine Ze6 u (hK _ _ ?_);rcases Zcr O with⟨E,rfl⟩|⟨d,E,hd,rfl⟩
    .rw[E]
     have q:Below w.heap.size w (w.alloc (.cells r e')):=(Yh _ _).alloc (Yb _) _;exact⟨H,φ,c.next (.inl ⟨rfl,rfl⟩) (q.mono c.base) (Zdh c q λ _ _=>rfl) (λ _ _=>rfl) (λ b k M=>(c.bnd b k M).below q) (λ _ _=>rfl)
      (λ i G m hi=>by
       have h:s.hp i=some (G,m):=hi;obtain⟨h3,O,A,E,Z⟩:=c.ent i G m h;exact⟨h3,O,A,(q.block _ (Zlf c (by rw[h];rfl))).trans E,RepL.stay (Zdh c q λ _ _=>rfl) m A Z⟩) c.inj
      (λ G g _ _ V hg=>by
       obtain⟨y',R⟩:=Yad.1 V;obtain⟨x,_,U⟩:=c.tail G y' R;obtain⟨⟨k,M⟩,_⟩:=U.own hg;exact⟨q.block g (c.bnd g k M).lt,rfl⟩)⟩
    .rw[E]
     have v:r.size=len*i.size:=by
      have:=RepL.length C;simp only[Yb6] at this;rw[this,f]
     refine Zxu c hd (.inl rfl) C ?_ (Yb _) (by simp only[maxLen];have:len<=len*i.size:=Nat.le_mul_of_pos_right _ p;omega) v f p;rw[List.take_of_length_le (by simp[v,f])]
   .simp[Rd.run] at h2
  .simp[Rd.run] at h2
 .simp[Rd.run] at h2
theorem Zr6 {t:TypeId}{b off q:Nat}{cs:List AV}{vs:List Value}{v:AV}(p:w.rangeAt b q vs)(m:RepL H w cs vs)(h:loadA P t cs off=some v) :
 ∃u,(Instr.loadAt t (.pointer (some ⟨b,q+off,none⟩))).run P w=.ok u w/\RepV H w v u:=by
 unfold loadA at h
 cases hu:P.underlying t with
 | none=>simp[isAggA,hu] at h
 | some d =>
  cases hd:d.isRow with
  | true =>
   simp only[isAggA,hu,Yci,hd] at h
   cases hn:sizeA P t with
   | none=>rw[hn] at h;cases h
   | some n =>
    rw[hn] at h;simp only at h
    split at h
    .rename_i hle
     cases h
     obtain⟨i,hi,g⟩:=Zcs hn;have hl:=RepL.length m;refine⟨.agg ((vs.drop off).take n).toArray,run_loadAt_mid w b (q+off) t ((vs.drop off).take n) d (λ j u f=>?_) hu hd ?_,?_⟩
     .rw[Ybl] at f
      split at f
      .rw[List.getElem?_drop] at f
       have:=p (off+j) u f;rw[<- Nat.add_assoc] at this;exact this
      .cases f
     .rw[hi]
      simp only[Yci,g,Yr,List.length_drop]
      congr 1
      omega
     .rw[RepV]
      exact⟨_,rfl,RepL.take n (RepL.drop off m)⟩
    .cases h
  | false =>
   simp only[isAggA,hu,Yci,hd] at h;obtain⟨u,k,_,r⟩:=RepL.at_ m h;refine⟨u,?_,r⟩;have c:(isAgg t).run P w=.ok false w:=by
    unfold isAgg;rw[Yah,run_underlying hu w]
    cases d <;> simp_all
   have x:=p off u k;simp only[Instr.loadAt,Instr.sureAddr,Yah,Yav,Y6,loadVar,c,Bool.false_eq_true,if_false,run_load,x]
theorem Zhy {b:Nat}{vs:List Value}{t:TypeId}{fr:Nat×Nat}(h:w.heap[b]?=some (.cells vs.toArray t fr)):w.rangeAt b 0 vs:=λ j v c=>by
 rw[Yc h,Yac]
 simpa using c
theorem Zxv (p:Gam B N w0 H0 s a w H φ){t:TypeId}{x:Operand}(G:o.op=.load t x)(C:((evalA x).bind λ v=>effLoad P N o.dst t v).run s=some (e,l)):Znb P B N w0 H0 o s e a w:=by
 obtain⟨v,_,_,h1,h2⟩:=Zl _ _ C;have c:=Zt p h1;have fin:∀(b off q:Nat)(cs:List AV)(vs:List Value)(l:List Nat),a.eval x=.pointer (some ⟨b,q+off,none⟩)->w.rangeAt b q vs->RepL H w cs vs->((Rd.ofOpt (loadA P t cs off)).bind λ v=>leave N o.dst v none none).run s=some (e,l)->Znb P B N w0 H0 o s e a w:=λ b off q cs vs l m F I h=>by
  obtain⟨u,_,_,h3,f⟩:=Zl _ _ h;obtain⟨r,d,j⟩:=Zr6 F I (Zaf h3);refine Zab p f (.inr j) ?_;unfold execOp;simp only[G,m,Yah,d,Y6,Yav]
 unfold effLoad at h2
 split at h2
 .rename_i i off
  simp only[Rd.run] at h2;rcases c with⟨A,n,hi,y,m⟩|c
  .cases hi
   obtain⟨⟨z,cs⟩,g⟩:=Yad.1 y;rw[g] at h2
   split at h2
   .rename_i e' l' h3
    simp only[Option.some.injEq,Prod.mk.injEq] at h2;obtain⟨rfl,_⟩:=h2;obtain⟨_,_,vs,f,E⟩:=p.ent i z cs g;exact fin (φ i) off 0 cs vs _ (by rw[Yac];exact m) (Zhy f) E h3
   .cases h2
  .rw[RepV] at c
   exact c.elim
 .rename_i cs off
  rcases c with⟨A,n,hi,_⟩|c
  .cases hi
  .rw[RepV] at c
   obtain⟨b,q,k,m,_,_,D⟩:=c;obtain⟨vs,h3,f⟩:=Zdf D;exact fin b off q cs vs _ m f h3 h2
 .simp[Rd.run] at h2
theorem Ztr (r:Gam B N w0 H0 s a w H φ){t:TypeId}{x y:Operand}(ho:o.op=.store t x y)(he:((evalA x).bind λ v=>(evalA y).bind λ u=>(Rd.ofOpt u.cells).bind λ cs=>effStore P o.dst t cs v).run s=some (e,l)):Znb P B N w0 H0 o s e a w:=by
 obtain⟨v,_,_,h1,h2⟩:=Zl _ _ he;obtain⟨u,_,_,h3,h4⟩:=Zl _ _ h2;obtain⟨X,_,_,h5,n⟩:=Zl _ _ h4;have T:=Zt r h1;have hc:=Zaf h5;obtain⟨h,a3,A⟩:=Zjw (Zjz (Zt r h3) hc) hc;unfold effStore at n
 split at n
 .rename_i i off
  simp only[Rd.run] at n;rcases T with⟨i',a4,hi,E,hx⟩|T
  .cases hi
   obtain⟨⟨R,cs⟩,L⟩:=Yad.1 E;rw[L] at n
   split at n
   .rename_i e' l' h7
    simp only[Option.some.injEq,Prod.mk.injEq] at n;obtain⟨rfl,_⟩:=n;simp only at h7
    split at h7
    .rename_i hh
     obtain⟨O,V,a6⟩:=hh;simp only[Rd.run,Option.some.injEq,Prod.mk.injEq] at h7;obtain⟨rfl,_⟩:=h7;obtain⟨hB,z,vs,h8,Z⟩:=r.ent i R cs L;have a7:=RepL.length Z;have M:=RepL.length A;obtain⟨a5,hi,Y⟩:=Zcs V;have J:=run_storeCells_at P (φ i) off R h 0 vs.toArray w h8 (by simp;omega) (RepL.one A);simp only[Ybh] at J;have F:(execOp a.eval o).run P w=.ok .skip (w.setRow (φ i) (vs.take off++h++vs.drop (off+h.length)).toArray):=by
      unfold execOp;simp only[ho,hx,Instr.storeAt,Instr.sureAddr,Yah,Yav,Y6,storeVar,sizeOf,typeInfo,run_program,hi];rw[a3];simp only[Y,Yc3,M,ne_eq,not_true_eq_false,if_false,J,Y6]
     have d:∀k,k≠φ i->(w.setRow (φ i) (vs.take off++h++vs.drop (off+h.length)).toArray).heap[k]?=w.heap[k]?:=λ k p=>setRow_other w _ k _ p
     have D:=setRow_heap w (φ i) vs.toArray (vs.take off++h++vs.drop (off+h.length)).toArray R (0,0) h8;have C:(w.setRow (φ i) (vs.take off++h++vs.drop (off+h.length)).toArray).heap.size=w.heap.size:=by simp[World.setRow]
     have G:Below B w (w.setRow (φ i) (vs.take off++h++vs.drop (off+h.length)).toArray):=⟨rfl,rfl,rfl,by rw[C];exact Yb _,λ k p=>d k (by omega)⟩
     have m:Stay H w H (w.setRow (φ i) (vs.take off++h++vs.drop (off+h.length)).toArray):=λ b k G=>⟨k,G,Yb _,λ q _=>World.cell?_of_block (d b (λ e=>by rw[e,z] at G;cases G))⟩
     intro K Q hK;refine Ztn F (hK _ _ ?_);rw[O];refine⟨H,φ,r.next (.inl ⟨rfl,rfl⟩) G m (λ _ _=>rfl) (λ b k p=>(r.bnd b k p).of (d b λ e=>by rw[e,z] at p;cases p)) (λ _ _=>rfl) (λ j t2 W f=>?_) (λ j j' f a0 a1=>?_) (λ t2 g _ _ I hg=>?_)⟩
     .unfold Eff.apply at f
      simp only at f;by_cases c:j=i
      .subst c
       rw[if_pos rfl] at f
       cases f
       refine⟨hB,z,_,D,?_⟩;have:=RepL.append (RepL.append (RepL.take off Z) A) (RepL.drop (off+X.length) Z);rw[<- M] at this⊢;exact RepL.stay m _ _ this
      .rw[if_neg c] at f
       obtain⟨q1,q2,U,q3,q4⟩:=r.ent j t2 W f;refine⟨q1,q2,U,(d _ λ e=>c (r.inj j i (by rw[f];rfl) E e)).trans q3,RepL.stay m _ _ q4⟩
     .have hlive:∀j,(((⟨none,none,some (i,(R,cs.take off++X++cs.drop (off+X.length)))⟩:Eff).apply s).hp j).isSome=true->(s.hp j).isSome=true:=λ j f=>by
       unfold Eff.apply at f;simp only at f;by_cases c:j=i
       .rw[c];exact E
       .rw[if_neg c] at f;exact f
      exact r.inj j j' (hlive j f) (hlive j' a0) a1
     .obtain⟨y',hy'⟩:=Yad.1 I
      obtain⟨x2,_,a2⟩:=r.tail t2 y' hy';obtain⟨⟨k,p⟩,_⟩:=a2.own hg;exact⟨d g (λ e=>by rw[e,z] at p;cases p),rfl⟩
    .simp[Rd.run] at h7
   .cases n
  .rw[RepV] at T
   exact T.elim
 .simp[Rd.run] at n
end
end
section
def AFn (P:Program)(W:World->Prop)(f:FuncId)(xs:List AV)(r:AV)(y:Tail):Prop :=
 ∀(H:Zv)(w:World)(vs:List Value),(∀b k,H b=some k->Bk w b)->W w->RepT H w xs vs->Calls P f vs.toArray w λ e w' =>
  ∃v H',e=.returned v/\Below w.heap.size w w'/\(∀b,b<w.heap.size->H' b=H b)/\(∀b k,H' b=some k->Bk w' b)/\RepV H' w' r v/\∀z,y=some z->TailOk H' w' w.heap.size z r v
section
variable {P:Program}{B N:Nat}{w0:World}{H0:Zv}{s:St}{a:Act}{w:World}{H:Zv}{φ:Nat->Nat}{o:Oper}{e:Eff}{l:List Nat}
theorem Zts (t ty e:TypeId)(i:TypeInfo)(z:Value)(D:P.underlying t=some (.slice e))(hi:P.info? e=some i)(T:i.zero=some z)(O:z.cells.size=i.size)(W:0<i.size)
 (base:Nat) (v:Value) (n:Nat) (xs:List Value) (f:w.ownsRow base e i.size v n xs) (A:Option Addr) (m c:Nat) (b:List Value) (C:b.length=m*i.size) (hA:A=none->m=0)
 (x:∀r,A=some r->∀j u,b[j]?=some u->w.cell? (r.add j)=some u) (h1:∀u∈b,u.oneCell'=true) (U:n+m<=1000000) (h:(n+m)*i.bytes<=140737488355328) :
 ∃G w',(Builtin.append_ #[t,t] ty #[v,.slice A m c]).run P w=.ok G w' /\
  ((m=0/\G=v/\w'=w)\/(∃g cap k d,v=.slice (some ⟨g,0,none⟩) n cap/\G=.slice (some ⟨g,0,none⟩) (n+m) cap/\w.heap[g]?=some (.cells k e (0,0))/\n+m<=cap/\cap<=maxLen/\w'=w.setRow g d/\d.size=cap*i.size/\d.toList.take ((n+m)*i.size)=xs++b/\base<=g)\/(∃cap d,G=.slice (some ⟨w.heap.size,0,none⟩) (n+m) cap/\n+m<=cap/\cap<=maxLen/\w'=w.drew.alloc (.cells d e (0,0))/\d.size=cap*i.size/\d.toList.take ((n+m)*i.size)=xs++b)):=by
 have p:(xs++b).length=(n+m)*i.size:=by rw[Yd,f.1,C,Yco]
 rcases A with _|r
 .have h0:=hA rfl
  subst h0;exact⟨v,w,Zce w base t _ e i i.size D hi v n xs f c,.inl ⟨rfl,rfl,rfl⟩⟩
 have L:=x r rfl;have grown:∀(old:Nat),n+m<=grownCap w (n+m) old e/\grownCap w (n+m) old e<=maxLen/\(xs.toArray++b.toArray++Builtin.zeroCells z.cells (grownCap w (n+m) old e-(n+m))).size=grownCap w (n+m) old e*i.size /\
  (xs.toArray++b.toArray++Builtin.zeroCells z.cells (grownCap w (n+m) old e-(n+m))).toList.take ((n+m)*i.size)=xs++b:=λ old=>by
  have R:=grownCap_ge w (n+m) old e;have q:grownCap w (n+m) old e<=maxLen:=grownCap_le_maxLen w (n+m) old e (by simp only[maxLen];omega);refine⟨R,q,?_,?_⟩
  .simp only[Array.size_append,Yc3,size_zeroCells,O,f.1,C,<- Yco]
   congr 1
   omega
  .simp only[Array.toList_append,Yp]
   rw[<- Yp,<- p];exact List.take_left
 rcases f.2 with⟨rfl,rfl⟩|⟨g,cap,k,rfl,Q,hg,X,q,M,y⟩
 .have hx:xs=[]:=Y7 (by simpa using f.1)
  subst hx;by_cases hm:m=0
  .subst hm
   refine⟨.slice none 0 0,w,?_,.inl ⟨rfl,rfl,rfl⟩⟩;simp[Builtin.append_,run_underlying D,sizeOf,typeInfo,hi,Builtin.lenOf,Builtin.firstCells,loadCells,loadCellsFrom]
  .have E:=run_append_nil (P:=P) w t ty e i z D hi T r m c b C L (by omega) (by omega) (by have V:=h;simp only[Yac] at V;omega)
   obtain⟨F,I,K,J⟩:=grown 0;simp only[Yac,List.nil_append,Array.empty_append] at F I K J⊢;exact⟨_,_,E,.inr (.inr ⟨_,_,rfl,F,I,rfl,K,J⟩)⟩
 .by_cases hroom:n+m<=cap
  .have hfit:n*i.size+b.length<=k.size:=by rw[C,M,<- Yco];exact Nat.mul_le_mul_right _ hroom
   have E:=run_append_room (P:=P) w t ty e i D hi g n cap k hg r m c b C L h1 hroom hfit;refine⟨_,_,E,.inr (.inl ⟨g,cap,k,_,rfl,rfl,hg,hroom,q,rfl,?_,?_,Q⟩)⟩
   .simp only[Yc3,Yd,Yr,List.length_drop,Yb6]
    omega
   .rw[y,<- p]
    exact List.take_left
  .have holds:∀j u,xs[j]?=some u->w.cell? ((⟨g,0,none⟩:Addr).add j)=some u:=f.cells (g:=g) rfl
   have E:=run_append_grow (P:=P) w t ty e i z D hi T ⟨g,0,none⟩ n cap xs f.1 holds r m c b C L (by omega) (by omega) (growslice_fits (by omega) h);obtain⟨F,I,K,J⟩:=grown cap;exact⟨_,_,E,.inr (.inr ⟨_,_,rfl,F,I,rfl,K,J⟩)⟩
theorem Zm0 {y:TypeId×Nat}{n:Nat}{cs:List AV}{v:Value}{t:TypeId}{z:Nat}(h:TailOk H w B y (.row n cs) v)(C:RepV H w (.row n cs) v)(p:(y.1=t/\y.2=z)\/y.2=0)(x:cs.length=n*z):∃xs,RepL H w cs xs/\w.ownsRow B t z v n xs/\∀g,v.ownBlock=some g->H g=some cs.length:=by
 obtain⟨n',L,e,G⟩:=h
 cases e
 rw[RepV] at C;obtain⟨A,c,M,h0,_,J⟩:=C;rcases G with⟨rfl,rfl⟩|⟨g,cap,d,rfl,E,K,hg,i,q,f,D,hz⟩
 .have:=h0 rfl
  subst this;exact⟨[],by rw[RepL],World.ownsRow_nil w B t z,λ g hg=>by simp[Yap] at hg⟩
 .obtain⟨rfl,rfl⟩:y.1=t/\y.2=z:=by
   rcases p with p|p
   .exact p
   .omega
  have I:cs.length<=d.size:=by rw[D,f];exact Nat.mul_le_mul_right _ i
  refine⟨d.toList.take cs.length,?_,⟨?_,.inr ⟨g,cap,d,rfl,E,hg,i,q,f,by rw[D]⟩⟩,λ g' m=>?_⟩
  .rcases J with rfl|⟨b,off,k,hA,hb,_,hcc⟩
   .rw[List.length_nil,List.take_zero,RepL]
   .cases M
    cases hA
    obtain⟨vs,h1,h2⟩:=Zdf hcc;have F:vs=d.toList.take cs.length:=by
     have r:=RepL.length h1
     apply Yca
     .rw[r,Yr];simp;omega
     .intro j hj hj2
      have:=h2 j vs[j] (List.getElem?_eq_getElem hj);rw[Yc hg,Yac] at this;rw[List.getElem_take];have u:j<d.size:=by omega
      rw[Array.getElem?_eq_getElem u] at this
      simpa using (Option.some.inj this).symm
    rw[<- F];exact h1
  .rw[Yr]
   simp;omega
  .simp only[Yap,Option.some.injEq] at m
   subst m;exact K
theorem Zqy (F:Gam B N w0 H0 s a w H φ){t:TypeId}{sl:Nat}{x:Operand}{c:Call}(ho:o.op=.call c)(b8:c.callee=.builtin .append)(a5:c.args.toList=[.tmp sl,x])(c0:c.argTypes.toList=[t,t])
 (he:((evalA x).bind λ v=>effAppend P N o.dst t sl v).run s=some (e,l)):Znb P B N w0 H0 o s e a w:=by
 have ha:c.args=#[.tmp sl,x]:=by rw[<- Yb0 (xs:=c.args),a5]
 have c8:c.argTypes=#[t,t]:=by rw[<- Yb0 (xs:=c.argTypes),c0]
 obtain⟨v,_,_,h1,h2⟩:=Zl _ _ he;have hv:=Zt F h1;unfold effAppend at h2
 split at h2
 .rename_i e' hu
  split at h2
  .rename_i i hi
   split at h2
   .rename_i z hz
    simp only[Rd.run] at h2
    cases hsl:s.sl sl with
    | none=>rw[hsl] at h2;cases htl:s.tl sl <;> (rw[htl] at h2;simp[Rd.run] at h2)
    | some old =>
     cases htl:s.tl sl with
     | none=>rw[hsl,htl] at h2;simp[Rd.run] at h2
     | some y =>
      rw[hsl,htl] at h2
      cases old with
      | row n cs =>
       cases v with
       | row m ds =>
        simp only at h2
        split at h2
        .rename_i e1 l1 h3
         simp only[Option.some.injEq,Prod.mk.injEq] at h2;obtain⟨rfl,_⟩:=h2
         split at h3
         .rename_i e2 l2 h4
          simp only[Option.some.injEq,Prod.mk.injEq] at h3;obtain⟨rfl,_⟩:=h3
          split at h4
          .rename_i hh
           obtain⟨hy,c9,b0,b1,a8,c4,c6,a2⟩:=hh;have c2:RepV H w (.row m ds) (a.eval x):=by
            rcases hv with⟨_,_,hq,_⟩|hv
            .cases hq
            .exact hv
           rw[RepV] at c2;obtain⟨A,cp,hx,e8,d3,d2⟩:=c2;have a3:RepV H w (.row n cs) (a.tmps.getD sl undef):=by
            rcases F.slot sl _ hsl with⟨_,_,hq,_⟩|hv
            .cases hq
            .exact hv
           obtain⟨x',b7,b9⟩:=F.tail sl y htl;rw[hsl] at b7
           cases b7
           obtain⟨xs,c3,a1,d1⟩:=Zm0 b9 a3 (t:=e') (z:=i.size) (by obtain⟨y1,y2⟩:=y;exact hy) b1;obtain⟨p,G,X⟩:∃p,RepL H w ds p/\∀ad,A=some ad->∀j u,p[j]?=some u->w.cell? (ad.add j)=some u:=by
            rcases d2 with rfl|⟨b,off,k,rfl,_,_,d4⟩
            .exact⟨[],by rw[RepL],λ ad _ j u Y=>by simp at Y⟩
            .obtain⟨vs,I,J⟩:=Zdf d4
             refine⟨vs,I,λ ad d7 j u Y=>?_⟩
             cases d7
             rw[Addr.add_mid];exact J j u Y
           have d0:=RepL.length G;obtain⟨v',w',b4,a9⟩:=Zts (P:=P) t o.type e' i z hu hi hz c9 b0 B _ n xs a1 A m cp p (by rw[d0,a8]) d3 X (RepL.one G) c4 c6;have d6:(execOp a.eval o).run P w=.ok (.value v') w':=by
            have e3:a.eval (.tmp sl)=a.tmps.getD sl undef:=rfl;unfold execOp;simp only[ho,resolve,b8,ha,c8,invoke,builtin,Yah,Yav,Y6,List.map_toArray,List.map_cons,List.map_nil,hx,e3,b4]
           intro K Q hK;refine Ze6 d6 (hK _ _ ?_);have a0:=RepL.append c3 G;have r:(cs++ds).length=(n+m)*i.size:=by rw[Yd,b1,a8,Yco]
           rcases Zcr h4 with⟨h5,rfl⟩|⟨d,h5,hd,rfl⟩
           .exfalso
            rw[h5] at a2
            cases a2
           .rw[h5]
            rcases a9 with⟨rfl,rfl,rfl⟩|⟨g,cap,O,f,T,rfl,hg,a6,a7,rfl,M,C,c5⟩|⟨cap,f,rfl,a6,a7,rfl,M,C⟩
            .have hds:ds=[]:=Y7 (by rw[a8];simp)
             subst hds;rw[Ybh,List.append_nil];refine⟨H,φ,F.next (.inr ⟨d,_,_,rfl,rfl,hd,.inr a3,λ q hq=>⟨?_,λ t' g E L U hg V=>?_⟩⟩) (Yh _ _) (Stay.refl _ _) (λ _ _=>rfl) F.bnd (λ _ _=>rfl) F.ent F.inj (λ _ _ _ _ _ _=>⟨rfl,rfl⟩)⟩
             .cases hq
              obtain⟨n',e6,R,hh⟩:=b9
              cases R
              rcases hh with⟨I,J⟩|⟨g,cap,O,I,J,q3,q4,q5,q6,q7,q8,q9⟩
              .exact⟨n,cs,rfl,.inl ⟨I,J⟩⟩
              .obtain⟨y1,y2⟩:=y
               obtain⟨rfl,rfl⟩:y1=e'/\y2=i.size:=by
                rcases hy with hy|hy
                .exact hy
                .simp only at q9;omega
               exact⟨n,cs,rfl,.inr ⟨g,cap,O,I,J,q3,q4,q5,q6,q7,q8,q9⟩⟩
             .exact F.tinj t' sl (λ R=>L (by rw[R])) U (by rw[htl];rfl) g hg V
            .have hHg':=d1 g (by rw[T];rfl)
             have b6:O.toList.take (n*i.size)=xs:=by
              rcases a1.2 with⟨I,_⟩|⟨g2,e0,d9,I,_,J,_,_,_,q3⟩
              .rw[T] at I;cases I
              .rw[T] at I
               cases I
               rw[hg] at J
               cases J
               exact q3
             have e5:=RepL.length c3;have h:∀k,k≠g->(w.setRow g f).heap[k]?=w.heap[k]?:=λ k W=>setRow_other w _ k _ W
             have D:=setRow_heap w g O f e' (0,0) hg;have b2:(w.setRow g f).heap.size=w.heap.size:=by simp[World.setRow]
             have e4:g<w.heap.size:=(Yw.1 hg).1;have hb:Below B w (w.setRow g f):=⟨rfl,rfl,rfl,by rw[b2];exact Yb _,λ k W=>h k (by omega)⟩
             obtain⟨H',b5⟩:∃H':Zv,H'=λ b=>if b=g then some (cs++ds).length else H b:=⟨_,rfl⟩
             have I:H' g=some (cs++ds).length:=by rw[b5];simp
             have J:∀b,b≠g->H' b=H b:=λ b hb=>by rw[b5];simp[hb]
             have a4:Stay H w H' (w.setRow g f):=λ b k W=>by
              by_cases c:b=g
              .subst c
               rw[hHg'] at W
               cases W
               refine⟨_,I,by rw[Yd];omega,λ q hq=>?_⟩;rw[Yc D,Yc hg];have e1:f[q]?=(xs++p)[q]?:=by
                rw[<- C,Ybl,if_pos (by rw[<- r,Yd];omega)];simp
               have e2:O[q]?=xs[q]?:=by
                rw[<- b6,Ybl,if_pos (by rw[<- b1];omega)];simp
               rw[e1,e2,List.getElem?_append_left (by omega)]
              .exact⟨k,(J b c).trans W,Yb _,λ q _=>World.cell?_of_block (h b c)⟩
             have Z:(w.setRow g f).rangeAt g 0 (xs++p):=λ j u Y=>by
              rw[Yc D,Yac];have d5:j<(xs++p).length:=(Yg.1 Y).1;have d8:j<(n+m)*i.size:=by
               rw[<- r,Yd];rw[Yd] at d5;omega
              rw[<- C,Ybl,if_pos d8] at Y
              simpa using Y
             refine⟨H',φ,F.next (.inr ⟨d,_,_,rfl,rfl,hd,.inr ?_,λ q hq=>⟨?_,λ t' g' E L U b3 V=>?_⟩⟩) hb a4 (λ b e7=>J b (by omega)) (λ b k W=>?_) (λ _ _=>rfl) (λ j t2 c1 Y=>?_) F.inj (λ t' g' _ L U b3=>?_)⟩
             .rw[RepV]
              exact⟨_,cap,rfl,λ h0=>Y7 (by rw[r,h0];simp),λ h0=>(by cases h0),.inr ⟨g,0,_,rfl,I,by omega,Zjx (RepL.stay a4 _ _ a0) Z⟩⟩
             .cases hq
              exact⟨n+m,cs++ds,rfl,.inr ⟨g,cap,f,rfl,c5,I,D,a6,a7,M,r,b0⟩⟩
             .simp only[Yap,Option.some.injEq] at V
              subst V;exact F.tinj t' sl (λ R=>L (by rw[R])) U (by rw[htl];rfl) g b3 (by rw[T];rfl)
             .by_cases c:b=g
              .rw[c];exact⟨_,_,D⟩
              .rw[J b c] at W
               exact(F.bnd b k W).of (h b c)
             .have hj':s.hp j=some (t2,c1):=Y
              obtain⟨p1,p2,c7,p3,p4⟩:=F.ent j t2 c1 hj';have E:φ j≠g:=λ R=>by rw[R,hHg'] at p2;cases p2
              exact⟨p1,(J _ E).trans p2,c7,(h _ E).trans p3,RepL.stay a4 _ _ p4⟩
             .have E:g'≠g:=λ R=>by
               subst R;exact F.tinj t' sl (λ R=>L (by rw[R])) U (by rw[htl];rfl) g' b3 (by rw[T];rfl)
              exact⟨h g' E,J g' E⟩
            .exact Zxu F hd (.inr rfl) a0 (by rw[r];exact C) a6 a7 M r b0
          .simp[Rd.run] at h4
         .cases h3
        .cases h2
       | _=>simp[Rd.run] at h2
      | _=>cases v <;> simp[Rd.run] at h2
   .simp[Rd.run] at h2
  .simp[Rd.run] at h2
 .simp[Rd.run] at h2
theorem Zxw (p:Gam B N w0 H0 s a w H φ){W:World->Prop}(hW:W w){call:FuncId->List AV->Option (AV×Tail)}(T:∀f xs r y,call f xs=some (r,y)->AFn P W f xs r y){c:Call}(ho:o.op=.call c){f:Operand}(V:c.callee=.value f)
 (he:((evalA f).bind λ g=>(evalsA c.args.toList).bind λ vs=>effCall P N call o.dst g vs).run s=some (e,l)):Znb P B N w0 H0 o s e a w:=by
 obtain⟨g,_,_,h1,h2⟩:=Zl _ _ he;obtain⟨vs,_,_,h3,E⟩:=Zl _ _ h2;have hg:=Zt p h1;unfold effCall at E
 split at E
 .rename_i k
  split at E
  .rename_i J
   obtain⟨q,R⟩:=J
   split at E
   .rename_i r y hr
    have a2:a.eval f=.func (.func k) #[] #[]:=by
     rcases hg with⟨_,_,hq,_⟩|hg
     .cases hq
     .rw[RepV] at hg;exact hg
    have I:=Zle p h3 R;obtain⟨fn, M, G, L⟩ : ∃fn, P.funcs[k]? = some fn ∧ fn.body.isNone = false ∧ (fn.name == "runtime.NumGoroutine") = false := by
     unfold okFn at q
     split at q
     .rename_i fn M
      simp only[Bool.and_eq_true,Bool.not_eq_true'] at q;exact⟨fn,M,by have:=q.1;cases O:fn.body <;> simp_all,q.2⟩
     .cases q
    have a4:(execOp a.eval o).run P w=.ok (.enter k (c.args.toList.map a.eval).toArray) w:=by
     unfold execOp;simp only[ho,resolve,V,a2,Deferred.ofValue,Yah,Yav,Y6,invoke,callFunc,run_program,M,L,G,Bool.false_eq_true,if_false]
     congr 2
     simp;rw[<- Array.toList_map,Yb0]
    intro K Q hK;unfold Oper.wp;rw[a4];refine Calls.mono (T k vs r y hr H w _ p.bnd hW I) ?_;rintro e' w' ⟨v,Y,rfl,O,U,D,a0,A⟩;refine hK _ _ ?_;have F:Stay H w Y w':=Zdh p O U;have C:∀i h m,s.hp i=some (h,m)->B<=φ i/\Y (φ i)=none/\∃vs:List Value,w'.heap[φ i]?=some (.cells vs.toArray h (0,0))/\RepL Y w' m vs:=λ i h m hi=>by
     obtain⟨p1,p2,a1,p3,p4⟩:=p.ent i h m hi;have Z:=Zlf p (i:=i) (by rw[hi];rfl);exact⟨p1,(U _ Z).trans p2,a1,(O.block _ Z).trans p3,RepL.stay F _ _ p4⟩
    have u:∀h g,(s.tl h).isSome=true->(a.tmps.getD h undef).ownBlock=some g->g<w.heap.size:=λ h g j hg=>by
     obtain⟨y',a3⟩:=Yad.1 j;obtain⟨x,_,q⟩:=p.tail h y' a3;obtain⟨⟨k,hk⟩,_⟩:=q.own hg;exact(p.bnd g k hk).lt
    rcases Zcr E with⟨h5,rfl⟩|⟨d,h5,hd,rfl⟩
    .rw[h5]
     exact⟨Y,φ,p.next (.inl ⟨rfl,rfl⟩) (O.mono p.base) F (λ b a6=>U b (by have:=p.base;omega)) D (λ _ _=>rfl) (λ i h m hi=>C i h m hi) p.inj (λ h g _ _ j hg=>⟨O.block g (u h g j hg),U g (u h g j hg)⟩)⟩
    .rw[h5]
     refine⟨Y,φ,p.next (.inr ⟨d,_,_,rfl,rfl,hd,.inr a0,λ z hz=>⟨?_,λ h g a8 a7 j a5 t=>?_⟩⟩) (O.mono p.base) F (λ b a6=>U b (by have:=p.base;omega)) D (λ _ _=>rfl) (λ i h m hi=>C i h m hi) p.inj (λ h g _ _ j hg=>⟨O.block g (u h g j hg),U g (u h g j hg)⟩)⟩
     .obtain⟨n,cs,e9,J⟩:=A z hz
      refine⟨n,cs,e9,?_⟩;rcases J with J|⟨g,cap,X,q1,q2,q3⟩
      .exact .inl J
      .exact .inr ⟨g,cap,X,q1,Nat.le_trans p.base q2,q3⟩
     .obtain⟨n,cs,e9,J⟩:=A z hz
      rcases J with⟨q1,_⟩|⟨g',cap,X,q1,q2,q3⟩
      .rw[q1] at t;simp[Yap] at t
      .rw[q1] at t
       simp only[Yap,Option.some.injEq] at t;subst t;have:=u h g' j a5;omega
   .simp[Rd.run] at E
  .simp[Rd.run] at E
 .simp[Rd.run] at E
theorem Zj2 (f:Gam B N w0 H0 s a w H φ){m:Sem Value}(b:execOp a.eval o=(do pure (.value (← m))))(c:((Rd.ofOpt (pureRun P m)).bind λ r=>(Rd.ofOpt (constA r)).bind λ z=>leave N o.dst z none none).run s=some (e,l)):Znb P B N w0 H0 o s e a w:=by
 obtain⟨r,_,_,h1,h2⟩:=Zl _ _ c;obtain⟨z,_,_,h3,d⟩:=Zl _ _ h2;refine Zab f d (.inr (Zdg (Zaf h3) H w).1) ?_;rw[b];simp only[Yah,Zjy m (Zaf h1) w,Y6,Yav]
theorem Ztt (p:Gam B N w0 H0 s a w H φ){q:TypeId}{x:Operand}{f:Nat}(D:o.op=.field q x f)(A:((evalA x).bind λ v=>effField P N o.dst q f v).run s=some (e,l)):Znb P B N w0 H0 o s e a w:=by
 obtain⟨v,_,_,h1,h2⟩:=Zl _ _ A;have m:=Zt p h1;unfold effField at h2
 split at h2
 .rename_i cs
  split at h2
  .rename_i fields hu
   split at h2
   .rename_i fd hfd
    obtain⟨u,_,_,h3,z⟩:=Zl _ _ h2;have c:=Zaf h3;have j:RepV H w (.agg cs) (a.eval x):=by
     rcases m with⟨_,_,y,_⟩|m
     .cases y
     .exact m
    rw[RepV] at j;obtain⟨vs,E,t⟩:=j;have g:∃r,(part fd.type vs.toArray fd.offset).run P w=.ok r w/\RepV H w u r:=by
     unfold loadA at c
     cases hut:P.underlying fd.type with
     | none=>simp[isAggA,hut] at c
     | some dd =>
      cases hdd:dd.isRow with
      | true =>
       simp only[isAggA,hut,Yci,hdd] at c
       cases hn:sizeA P fd.type with
       | none=>rw[hn] at c;cases c
       | some n =>
        rw[hn] at c;simp only at c
        split at c
        .rename_i hle
         cases c
         obtain⟨i,hi,k⟩:=Zcs hn;have b:(isAgg fd.type).run P w=.ok true w:=by
          unfold isAgg;rw[Yah,run_underlying hut w]
          cases dd <;> simp_all
         refine⟨.agg (vs.toArray.extract fd.offset (fd.offset+i.size)),by simp[part,Yah,b,sizeOf,typeInfo,hi],?_⟩;rw[RepV];refine⟨(vs.drop fd.offset).take n,?_,RepL.take n (RepL.drop fd.offset t)⟩;rw[k];simp
        .cases c
      | false =>
       simp only[isAggA,hut,Yci,hdd] at c;obtain⟨r,C,_,d⟩:=RepL.at_ t c;have b:(isAgg fd.type).run P w=.ok false w:=by
        unfold isAgg;rw[Yah,run_underlying hut w]
        cases dd <;> simp_all
       exact⟨r,by simp[part,Yah,b,C],d⟩
    obtain⟨r,h,d⟩:=g;refine Zab p z (.inr d) ?_;unfold execOp;simp only[D,E,Instr.field,Yah,run_underlying hu,Y6,hfd,asAgg,Yav,h]
   .simp[Rd.run] at h2
  .simp[Rd.run] at h2
 .simp[Rd.run] at h2
theorem Zkk (h:Gam B N w0 H0 s a w H φ){j:TypeId}{x:Operand}{f:Nat}(q:o.op=.fieldAddr j x f)(p:((evalA x).bind λ v=>effFieldAddr P N o.dst j f v).run s=some (e,l)):Znb P B N w0 H0 o s e a w:=by
 obtain⟨v,_,_,h1,h2⟩:=Zl _ _ p;have c:=Zt h h1;unfold effFieldAddr at h2
 split at h2
 .rename_i i off
  split at h2
  .rename_i fields hu
   split at h2
   .rename_i fd hfd
    split at h2
    .rename_i n hn
     simp only[Rd.run] at h2;rcases c with⟨i',k,hi,b,r⟩|c
     .cases hi
      obtain⟨en,d⟩:=Yad.1 b;rw[d] at h2
      split at h2
      .rename_i e' l' h3
       simp only[Option.some.injEq,Prod.mk.injEq] at h2;obtain⟨rfl,_⟩:=h2;obtain⟨m,hi,g⟩:=Zcs hn;refine Zab h h3 (.inl ⟨i,off+fd.offset,rfl,b,rfl⟩) ?_;unfold execOp;simp only[q,r,Instr.fieldAt,Yah,run_underlying hu,Y6,hfd,Instr.sureAddr,Yav,fieldPlace,sizeOf,typeInfo,run_program,hi,g,Addr.add_mid];simp
      .cases h2
     .rw[RepV] at c;exact c.elim
    .simp[Rd.run] at h2
   .simp[Rd.run] at h2
  .simp[Rd.run] at h2
 .simp[Rd.run] at h2
theorem Zxx {k:IntKind}{n:Int}{v:Value}(h:Zxs H w φ s (.int k n) v):v=.int k n:=by
 rcases h with⟨_,_,b,_⟩|h
 .cases b
 .rw[RepV] at h;exact h
theorem Zkl (C:Gam B N w0 H0 s a w H φ){t:TypeId}{x Q:Operand}(T:o.op=.indexAddr t x Q)(W:((evalA x).bind λ v=>(evalA Q).bind λ u=>effIndexAddr P N o.dst t v u).run s=some (e,l)):Znb P B N w0 H0 o s e a w:=by
 obtain⟨v,_,_,h1,h2⟩:=Zl _ _ W;obtain⟨u,_,_,h3,d⟩:=Zl _ _ h2;have p:=Zt C h1;have R:=Zt C h3;unfold effIndexAddr at d
 split at d
 .rename_i e' n cs k i hut
  split at d
  .rename_i z hz
   split at d
   .rename_i hh
    obtain⟨M,F,m,E⟩:=hh;obtain⟨G,f,j⟩:=Zcs hz;have r:RepV H w (.row n cs) (a.eval x):=by
     rcases p with⟨_,_,V,_⟩|p
     .cases V
     .exact p
    rw[RepV] at r;obtain⟨A,c,O,_,_,J⟩:=r;have g:=Zxx R;have K:cs≠[]:=λ X=>by
     rw[X] at m;have:0<n*z:=Nat.mul_pos (by omega) E;simp at m;omega
    rcases J with J|⟨b,q,h,rfl,Y,I,L⟩
    .exact absurd J K
    .have hp:RepV H w (.ptr cs (i.toNat*z)) (.pointer (some ⟨b,q+i.toNat*z,none⟩)):=by
      rw[RepV];exact⟨b,q,h,rfl,Y,I,L⟩
     refine Zab C d (.inr hp) ?_
     .unfold execOp
      simp only[T,O,g,Instr.indexAt,asIntOf,Yah,run_underlying hut,Y6,Yav];rw[if_pos ⟨M,F⟩];simp only[Yah,sizeOf,typeInfo,run_program,f,Y6,Yav,j,Addr.add_mid]
   .simp[Rd.run] at d
  .simp[Rd.run] at d
 .rename_i n e' b off k i hut
  split at d
  .rename_i z hz
   split at d
   .rename_i hh
    obtain⟨G,f,j⟩:=Zcs hz;simp only[Rd.run] at d;rcases p with⟨i',U,hi,y,O⟩|p
    .cases hi
     obtain⟨en,D⟩:=Yad.1 y;rw[D] at d
     split at d
     .rename_i e2 l' h5
      simp only[Option.some.injEq,Prod.mk.injEq] at d;obtain⟨rfl,_⟩:=d;have g:=Zxx R;refine Zab C h5 (.inl ⟨b,off+i.toNat*z,rfl,y,rfl⟩) ?_;unfold execOp;simp only[T,O,g,Instr.indexAt,asIntOf,Yah,run_underlying hut,Y6,Yav,Instr.sureAddr];rw[if_pos hh];simp only[Yah,sizeOf,typeInfo,run_program,f,Y6,Yav,j,Addr.add_mid]
     .cases d
    .rw[RepV] at p;exact p.elim
   .simp[Rd.run] at d
  .simp[Rd.run] at d
 .simp[Rd.run] at d
theorem Zpd (g:GamX B N w0 H0 s a w){W:World->Prop}(M:W w){call:FuncId->List AV->Option (AV×Tail)}(j:∀f xs r y,call f xs=some (r,y)->AFn P W f xs r y){id:Nat}
 (d:(effOne P N call id o).run s=some (e,l)):Znb P B N w0 H0 o s e a w:=by
 obtain⟨H,φ,g⟩:=g;unfold effOne at d
 split at d
 .rename_i x ho;exact Zj0 g (.inr ho) d
 .rename_i x ho;exact Zj0 g (.inl ho) d
 .rename_i c x y ho
  obtain⟨v,_,_,h1,d⟩:=Zl _ _ d;have h:=Zt g h1
  split at d
  .rename_i b
   obtain⟨u,_,_,h3,q⟩:=Zl _ _ d;have K:=Zt g h3;have Q:a.eval c=.bool b:=by
    rcases h with⟨_,_,p,_⟩|h
    .cases p
    .rw[RepV] at h;exact h
   refine Zab g q K ?_;unfold execOp
   cases b <;> simp[ho,Q,asBool]
  .simp[Rd.run] at d
 .rename_i t ho;exact Zto g ho d
 .rename_i t x ho;exact Z0t g ho d
 .rename_i t ps ho;exact Ztp g ho d
 .rename_i t len ps ho;exact Ztq g ho d
 .rename_i t x ho;exact Zxv g ho d
 .rename_i t x y ho;exact Ztr g ho d
 .rename_i op xt x y yt ho
  obtain⟨v,_,_,h1,d⟩:=Zl _ _ d;obtain⟨u,_,_,h2,d⟩:=Zl _ _ d;obtain⟨k,_,_,h3,d⟩:=Zl _ _ d;obtain⟨G,_,_,q,d⟩:=Zl _ _ d;have z:=Zie (Zt g h1) (Zaf h3);have J:=Zie (Zt g h2) (Zaf q);refine Zj2 g (m:=do eqGuard op xt x y k G;binOp op xt k G) ?_ d;unfold execOp;simp only[ho,z,J]
 .rename_i op xt x ho
  obtain⟨v,_,_,h1,d⟩:=Zl _ _ d;obtain⟨k,_,_,h3,d⟩:=Zl _ _ d;have z:=Zie (Zt g h1) (Zaf h3);refine Zj2 g (m:=Op.unary op k) ?_ d;unfold execOp;simp only[ho,z]
 .rename_i t t' x ho
  obtain⟨v,_,_,h1,d⟩:=Zl _ _ d;obtain⟨k,_,_,h3,d⟩:=Zl _ _ d;have z:=Zie (Zt g h1) (Zaf h3);refine Zj2 g (m:=convert t t' k) ?_ d;unfold execOp;simp only[ho,z]
 .rename_i x i ho
  obtain⟨v,_,_,h1,d⟩:=Zl _ _ d;have h:=Zt g h1
  split at d
  .rename_i vs
   obtain⟨u,_,_,h3,q⟩:=Zl _ _ d;have R:=Zaf h3;rcases h with⟨_,_,p,_⟩|h
   .cases p
   .rw[RepV] at h
    obtain⟨L,F,I⟩:=h;obtain⟨r,T,C⟩:=RepT.at_ I R;refine Zab g q (.inr C) ?_;unfold execOp;have E:L.toArray[i]?=some r:=by simpa using T
    simp only[ho,F,Instr.extract,E,Yah,Yav,Y6]
  .simp[Rd.run] at d
 .rename_i xt x f ho;exact Ztt g ho d
 .rename_i xt x f ho;exact Zkk g ho d
 .rename_i t x i ho;exact Zkl g ho d
 .rename_i c ho
  split at d
  .rename_i f hcal;exact Zxw g M j ho hcal d
  .rename_i hcal
   split at d
   .rename_i sl x t t' hargs htys
    split at d
    .rename_i htt
     subst htt;exact Zqy g ho hcal hargs htys d
    .simp[Rd.run] at d
   .simp[Rd.run] at d
  .rename_i hcal
   split at d
   .rename_i x t hargs htys
    split at d
    .rename_i et hut
     obtain⟨v,_,_,h1,d⟩:=Zl _ _ d;have h:=Zt g h1
     split at d
     .rename_i n cs
      rcases h with⟨_,_,p,_⟩|h
      .cases p
      .rw[RepV] at h
       obtain⟨A,cp,F,_⟩:=h;have O:c.args=#[x]:=by rw[<- Yb0 (xs:=c.args),hargs]
       have D:c.argTypes=#[t]:=by rw[<- Yb0 (xs:=c.argTypes),htys]
       refine Zab g d (u:=.int .i64 n) (.inr (by rw[RepV])) ?_;unfold execOp;simp[ho,resolve,hcal,O,D,invoke,builtin,F,Builtin.len_,goInt,run_underlying hut]
     .simp[Rd.run] at d
    .simp[Rd.run] at d
   .simp[Rd.run] at d
  .simp[Rd.run] at d
 .simp[Rd.run] at d
theorem Zr7 (h:GamX B N w0 H0 s a w){W:World->Prop}(z:W w){call:FuncId->List AV->Option (AV×Tail)}(g:∀f xs r y,call f xs=some (r,y)->AFn P W f xs r y){id:Nat}{ops:Array Oper}
 (k:(effOp P N call ops id o).run s=some (e,l)) (K:Act->World->Prop) (Q:Exit->Act->World->Prop) (t:∀A w',GamX B N w0 H0 (e.apply s) A w'->K A w') :
 (Yan o (yielded ops a.tmps)=true/\o.wp P a w K Q)\/(Yan o (yielded ops a.tmps)=false/\K (a.put o.dst undef) w):=by
 unfold effOp at k
 split at k
 .rename_i hg
  exact .inl ⟨by unfold Yan;rw[hg],Zpd h z g k K Q t⟩
 .rename_i j want hg
  have m:Yan o (yielded ops a.tmps)=(yielded ops a.tmps j==some want):=by unfold Yan;rw[hg]
  split at k
  .rename_i d hd
   obtain⟨v,l1,l2,h1,c⟩:=Zl _ _ k;clear k
   split at c
   .rename_i b
    have C:yielded ops a.tmps j=some b:=by
     obtain⟨H,φ,h⟩:=h;have i:a.tmps.getD d undef=.bool b:=by
      rcases Zt h h1 with⟨_,_,n,_⟩|i
      .cases n
      .rw[RepV] at i;exact i
     unfold dstOf at hd
     split at hd
     .rename_i o' ho'
      have u:a.tmps[d]?=some (.bool b):=by
       cases n:a.tmps[d]? with
       | none=>rw[Ycw,n] at i;cases i
       | some x=>rw[Ycw,n] at i;exact congrArg some i
      unfold yielded;rw[ho'];simp only[Option.bind_some,hd,u]
     .cases hd
    rw[m,C]
    split at c
    .rename_i hb
     subst hb;exact .inl ⟨by simp,Zpd h z g c K Q t⟩
    .rename_i hb
     refine .inr ⟨by simpa using hb,t _ _ ?_⟩;obtain⟨H,φ,h⟩:=h;rcases Zcr c with⟨p,rfl⟩|⟨d',p,q,rfl⟩
     .rw[p]
      exact⟨H,φ,h⟩
     .rw[p]
      exact⟨H,φ,h.value q (.inr (by rw[RepV];trivial))⟩
   .simp[Rd.run] at c
  .simp[Rd.run] at k
end
end
