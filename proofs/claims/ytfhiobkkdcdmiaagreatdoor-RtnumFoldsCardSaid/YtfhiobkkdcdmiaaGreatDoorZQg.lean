/- Parts. -/
import Derived.Test.YtfhiobkkdcdmiaaGreatDoorZQd
import Derived.Laws.CopyRow
set_option linter.all false
open Nat renaming le_refl->Yb,zero_add->Y9,add_zero->Ybd,add_mul->Yci
open Go.Lib renaming cell_of_heap->Yc
open List renaming length_append->Yd,getElem?_eq_some_iff->Yg,append_assoc->Yn,length_take->Yq,replicate->Ys,eq_nil_of_length_eq_zero->Y5,getElem?_take->Ybi,ext_getElem->Ybw,size_toArray->Ycq
open Go.RowKit.Below renaming refl->Yh
open Array renaming getElem?_eq_some_iff->Yv,toArray_toList->Yby,length_toList->Yb6,getD_eq_getD_getElem?->Ycn
open Go.Result renaming andThen_ok->Y4
open Option renaming isSome_iff_exists->Yae,map_some->Yb8
open Go.Sem renaming run_bind->Yai,run_pure->Yas
open Go.Region renaming wanted->Yal
open Go.Value renaming ownBlock->Yao
namespace Go.Proofs.YtfhiobkkdcdmiaaGreatDoor
open Go.RowKit
section
def GamX (B N:Nat)(w0:World)(H0:Zx)(s:S.St)(a:Act)(w:World):Prop:=∃H φ,Gam B N w0 H0 s a w H φ
def Zmh (P:Program)(B N:Nat)(w0:World)(H0:Zx)(o:Oper)(s:S.St)(e:S.Eff)(a:Act)(w:World):Prop :=
 ∀K Q,(∀a' w',GamX B N w0 H0 (e.apply s) a' w'->K a' w')->o.wp P a w K Q
section
variable {P:Program}{B N:Nat}{w0:World}{H0:Zx}{s:S.St}{a:Act}{w:World}{H:Zx}{φ:Nat->Nat}{o:Oper}{e:S.Eff}{l:List Nat}
theorem Zey {K:Act->World->Prop}{Q:Exit->Act->World->Prop}{v:Value}{w':World}(hr:(execOp a.eval o).run P w=.ok (.value v) w')(h:K (a.put o.dst v) w'):o.wp P a w K Q:=by
 unfold Oper.wp;rw[hr];exact h
theorem Zsy {K:Act->World->Prop}{Q:Exit->Act->World->Prop}{w':World}(hr:(execOp a.eval o).run P w=.ok .skip w')(h:K (a.put o.dst undef) w'):o.wp P a w K Q:=by
 unfold Oper.wp;rw[hr];exact h
theorem Zco {v:S.AV}{y:S.Tail}{drop:Option Nat}{dst:Option Tmp}(h:(S.leave N dst v y drop).run s=some (e,l)):(dst=none/\e=⟨none,none,none⟩)\/∃d,dst=some d/\d<N/\e=⟨some (d,v,y),drop,none⟩:=by
 unfold S.leave at h
 split at h
 .rename_i d
  split at h
  .rename_i hd
   simp only[S.Rd.run,Option.some.injEq,Prod.mk.injEq] at h;exact .inr ⟨d,rfl,hd,h.1.symm⟩
  .simp[S.Rd.run] at h
 .simp only[S.Rd.run,Option.some.injEq,Prod.mk.injEq] at h
  exact .inl ⟨rfl,h.1.symm⟩
theorem Zac (hG:Gam B N w0 H0 s a w H φ){v:S.AV}{u:Value}(he:(S.leave N o.dst v none none).run s=some (e,l))(hx:Zw3 H w φ s v u)(hr:(execOp a.eval o).run P w=.ok (.value u) w):Zmh P B N w0 H0 o s e a w:=by
 intro K Q hK;refine Zey hr (hK _ _ ?_);rcases Zco he with⟨h1,rfl⟩|⟨d,h1,hd,rfl⟩
 .rw[h1]
  exact⟨H,φ,hG⟩
 .rw[h1]
  exact⟨H,φ,hG.value hd hx⟩
theorem Zji (hG:Gam B N w0 H0 s a w H φ){x:Operand}(ho:o.op=.assign x\/o.op=.move x)(he:(S.effAssign N o.dst x).run s=some (e,l)):Zmh P B N w0 H0 o s e a w:=by
 have hrun:(execOp a.eval o).run P w=.ok (.value (a.eval x)) w:=by
  rcases ho with ho|ho <;> (unfold execOp;simp only[ho,Yas])
 cases x with
 | tmp t =>
  unfold S.effAssign at he;obtain⟨v,_,_,h1,h2⟩:=Zl _ _ he;simp only[S.Rd.run] at h2;have hs:s.sl t=some v:=by
   simp only[S.evalA,S.Rd.run] at h1
   split at h1
   .rename_i u l' hu
    simp only[Option.some.injEq,Prod.mk.injEq] at h1;obtain⟨rfl,_⟩:=h1;exact Zah hu
   .cases h1
  split at h2
  .rename_i e' l' h3
   simp only[Option.some.injEq,Prod.mk.injEq] at h2;obtain⟨rfl,_⟩:=h2
   split at h3
   .rename_i z htl
    intro K Q hK;refine Zey hrun (hK _ _ ?_);rcases Zco h3 with⟨h4,rfl⟩|⟨d,h4,hd,rfl⟩
    .rw[h4]
     exact⟨H,φ,hG⟩
    .rw[h4]
     refine⟨H,φ,hG.next (.inr ⟨d,v,_,rfl,rfl,hd,?_,λ z hz=>⟨?_,λ t' g hne hdr hsm hg hg2=>?_⟩⟩) (Yh _ _) (Stay.refl _ _) (λ _ _=>rfl) hG.bnd (λ _ _=>rfl) hG.ent hG.inj (λ _ _ _ _ _ _=>⟨rfl,rfl⟩)⟩
     .exact hG.slot t v hs
     .cases hz
      obtain⟨x',hx',hok⟩:=hG.tail t _ htl;rw[hs] at hx'
      cases hx'
      exact hok
     .have hne':t'≠t:=λ e=>hdr (by rw[e])
      exact hG.tinj t' t hne' hsm (by rw[htl];rfl) g hg hg2
   .exact Zac hG h3 (hG.slot t v hs) hrun
  .cases h2
 | const c =>
  unfold S.effAssign at he;obtain⟨v,_,_,h1,h2⟩:=Zl _ _ he;have hc:=Zah h1;intro K Q hK;refine Zey hrun (hK _ _ ?_);rcases Zco h2 with⟨h4,rfl⟩|⟨d,h4,hd,rfl⟩
  .rw[h4]
   exact⟨H,φ,hG⟩
  .rw[h4]
   have hnil:∀z,(match v with | .row _ _=>some ((0,0):TypeId×Nat) | _=>none)=some z->c=.slice none 0 0/\v=.row 0 []:=λ z hz=>by
    unfold S.constA at hc
    split at hc <;> cases hc <;> first | (simp at hz;done) | exact⟨rfl,rfl⟩
   refine⟨H,φ,hG.next (.inr ⟨d,v,_,rfl,rfl,hd,.inr (Zdf hc H w).1,λ z hz=>⟨?_,λ t' g hne hdr hsm hg hg2=>?_⟩⟩) (Yh _ _) (Stay.refl _ _) (λ _ _=>rfl) hG.bnd (λ _ _=>rfl) hG.ent hG.inj (λ _ _ _ _ _ _=>⟨rfl,rfl⟩)⟩
   .obtain⟨rfl,rfl⟩:=hnil z hz
    exact⟨0,[],rfl,.inl ⟨rfl,rfl⟩⟩
   .obtain⟨rfl,rfl⟩:=hnil z hz
    simp[Act.eval,Yao] at hg2
 | func f =>
  unfold S.effAssign at he;obtain⟨v,_,_,h1,h2⟩:=Zl _ _ he;exact Zac hG h2 (Zr hG h1) hrun
 | global g =>
  unfold S.effAssign at he;obtain⟨v,_,_,h1,h2⟩:=Zl _ _ he;exact Zac hG h2 (Zr hG h1) hrun
theorem Zkw (hG:Gam B N w0 H0 s a w H φ){i:Nat}(hi:(s.hp i).isSome=true):φ i<w.heap.size:=by
 obtain⟨⟨t,cs⟩,h⟩:=Yae.1 hi;obtain⟨_,_,vs,h1,_⟩:=hG.ent i t cs h;exact(Yv.1 h1).1
theorem Zdg {H':Zx}{w':World}(hG:Gam B N w0 H0 s a w H φ)(hb:Below w.heap.size w w')(hH:∀b,b<w.heap.size->H' b=H b):Stay H w H' w':=λ b h e=>by
 have hlt:=(hG.bnd b h e).lt;refine⟨h,(hH b hlt).trans e,Yb _,λ o _=>?_⟩;exact hb.cell (p:=⟨b,o,none⟩) hlt
theorem Zkx (hG:Gam B N w0 H0 s a w H φ){id:Nat}{t:TypeId}{cs:List S.AV}{vs:List Value}(he:(S.fresh N o.dst id t cs).run s=some (e,l))(hx:RepL H w cs vs)
 (hr:(execOp a.eval o).run P w=.ok (.value (.pointer (some ⟨w.heap.size,0,none⟩))) (w.alloc (.cells vs.toArray t (0,0)))):Zmh P B N w0 H0 o s e a w:=by
 unfold S.fresh at he
 split at he
 .rename_i d hdst
  split at he
  .rename_i hd
   simp only[S.Rd.run] at he
   split at he
   .rename_i e' l' h1
    split at h1
    .rename_i hnone
     simp only[S.Rd.run,Option.some.injEq,Prod.mk.injEq] at h1 he;obtain⟨rfl,_⟩:=h1;obtain⟨rfl,_⟩:=he;intro K Q hK;refine Zey hr (hK _ _ ?_);have hb:Below w.heap.size w (w.alloc (.cells vs.toArray t (0,0))):=(Yh _ _).alloc (Yb _) _;have hst:Stay H w H (w.alloc (.cells vs.toArray t (0,0))):=Zdg hG hb λ _ _=>rfl
     have hsz:(w.alloc (.cells vs.toArray t (0,0))).heap.size=w.heap.size+1:=by show(w.heap.push _).size=_;simp
     have hnew:=heap_alloc_new w (.cells vs.toArray t (0,0));rw[hdst];refine⟨H,λ i=>if i=id then w.heap.size else φ i,hG.next (.inr ⟨d,_,_,rfl,rfl,hd,.inl ⟨id,0,rfl,?_,?_⟩,λ z hz=>by cases hz⟩) (hb.mono hG.base) hst (λ _ _=>rfl) (λ b n h=>?_) (λ i hi=>?_) (λ i t' cs' hi=>?_) (λ i j hi hj hij=>?_) (λ t' g _ _ hsm hg=>⟨?_,rfl⟩)⟩
     .unfold S.Eff.apply;simp
     .simp
     .exact(hG.bnd b n h).below hb
     .have hne:i≠id:=λ e=>by rw[e,hnone] at hi;cases hi
      simp only[if_neg hne]
     .unfold S.Eff.apply at hi
      simp only at hi;by_cases c:i=id
      .rw[if_pos c] at hi
       cases hi
       simp only[if_pos c];refine⟨hG.base,?_,vs,hnew,RepL.stay hst cs vs hx⟩
       cases hH:H w.heap.size with
       | none=>rfl
       | some n=>have:=(hG.bnd _ n hH).lt;omega
      .rw[if_neg c] at hi
       simp only[if_neg c];obtain⟨h2,h3,vs',h4,h5⟩:=hG.ent i t' cs' hi;exact⟨h2,h3,vs',(hb.block _ (Zkw hG (by rw[hi];rfl))).trans h4,RepL.stay hst cs' vs' h5⟩
     .have hlive:∀i,i≠id->(((⟨some (d,.box id 0,none),none,some (id,(t,cs))⟩:S.Eff).apply s).hp i).isSome=true->(s.hp i).isSome=true:=λ i hne hi=>by
       unfold S.Eff.apply at hi;simp only[if_neg hne] at hi;exact hi
      have hij:(if i=id then w.heap.size else φ i)=(if j=id then w.heap.size else φ j):=hij;by_cases ci:i=id
      .by_cases cj:j=id
       .rw[ci,cj]
       .rw[if_pos ci,if_neg cj] at hij
        have:=Zkw hG (hlive j cj hj);omega
      .by_cases cj:j=id
       .rw[if_neg ci,if_pos cj] at hij
        have:=Zkw hG (hlive i ci hi);omega
       .rw[if_neg ci,if_neg cj] at hij
        exact hG.inj i j (hlive i ci hi) (hlive j cj hj) hij
     .obtain⟨z,hz⟩:=Yae.1 hsm
      obtain⟨x,_,hok⟩:=hG.tail t' z hz;obtain⟨⟨n,hn⟩,_⟩:=hok.own hg;exact hb.block g (hG.bnd g n hn).lt
    .simp[S.Rd.run] at h1
   .cases he
  .simp[S.Rd.run] at he
 .simp[S.Rd.run] at he
theorem Zhz {t:TypeId}{cs:List S.AV}(h:S.zeroA P t=some cs):∃i z,P.info? t=some i/\i.zero=some z/\S.constsA z.cells.toList=some cs:=by
 unfold S.zeroA at h
 split at h
 .rename_i i hi
  split at h
  .rename_i z hz
   exact⟨i,z,hi,hz,h⟩
  .cases h
 .cases h
theorem Zsz (hG:Gam B N w0 H0 s a w H φ){id:Nat}{t:TypeId}(ho:o.op=.alloc t)(he:(match S.zeroA P t with|some cs=>S.fresh N o.dst id t cs|none=>.fail).run s=some (e,l)):Zmh P B N w0 H0 o s e a w:=by
 split at he
 .rename_i cs hcs
  obtain⟨i,z,hi,hz,hc⟩:=Zhz hcs;refine Zkx hG he (Zdv hc H w) ?_;unfold execOp;simp only[ho,Instr.alloc,zeroValue,typeInfo,Yai,run_program,Y4,hi,hz,Yas,newVar,newRow,run_newObj];rfl
 .simp[S.Rd.run] at he
theorem Zzg (hG:Gam B N w0 H0 s a w H φ){id:Nat}{t:TypeId}{x:Operand}(ho:o.op=.box t x)(he:((S.evalA x).bind λ v=>(S.Rd.ofOpt v.cells).bind λ cs=>S.fresh N o.dst id t cs).run s=some (e,l)):Zmh P B N w0 H0 o s e a w:=by
 obtain⟨v,_,_,h1,h2⟩:=Zl _ _ he;obtain⟨cs,_,_,h3,h4⟩:=Zl _ _ h2;have hc:=Zah h3;obtain⟨vs,e1,h5⟩:=Zje (Zjh (Zr hG h1) hc) hc;refine Zkx hG h4 h5 ?_;unfold execOp;simp only[ho,Instr.box,newVar,newRow,Yai,run_newObj,Y4,Yas,e1];rfl
theorem Zky {ps:Array (Nat×Operand)}:(ps.map λ(i,x)=>(i,a.eval x)).toList=ps.toList.map λ p=>(p.1,a.eval p.2):=by simp
theorem Zop:∀{fs:List Field} {places:List (Nat×Nat)},S.placesA P fs=some places->fs.mapM (λ f=>(P.info? f.type).map λ i=>(f.offset,i.size))=some places
 | [],places,h=>by simp[S.placesA] at h;subst h;rfl
 | f::r,places,h=>by
  unfold S.placesA at h
  split at h
  .rename_i i l h1 h2
   cases h
   rw[List.mapM_cons,h1];simp[Zop h2]
  .cases h
theorem Zs0 (hG:Gam B N w0 H0 s a w H φ){t:TypeId}{ps:Array (Nat×Operand)}(ho:o.op=.build t ps)(he:((S.partsA ps.toList).bind λ vs=>S.effBuild P N o.dst t vs).run s=some (e,l)):Zmh P B N w0 H0 o s e a w:=by
 obtain⟨vs,_,_,h1,h2⟩:=Zl _ _ he;have hp:=Zg0 hG h1;rw[<- Zky] at hp;have fin:∀(place:Nat->Option (Nat×Nat)) (z:Value) (cs0:List S.AV) (l:List Nat),S.constsA z.cells.toList=some cs0->((S.Rd.ofOpt (S.fillA place cs0 vs)).bind λ cs=>S.leave N o.dst (.agg cs) none none).run s=some (e,l) ->
  (∀cells,Instr.fill place z.cells ((ps.map λ(i,x)=>(i,a.eval x)).toList)=some cells->P.built t ((ps.map λ(i,x)=>(i,a.eval x)).toList)=some cells)->Zmh P B N w0 H0 o s e a w:=λ place z cs0 l hz h hb=>by
  obtain⟨cs,_,_,h3,h4⟩:=Zl _ _ h;obtain⟨r,hr,hrep⟩:=Zmb hp (Zdv hz H w) (Zah h3);refine Zac hG h4 (u:=.agg r) (.inr ?_) ?_
  .rw[RepV]
   exact⟨r.toList,by simp,hrep⟩
  .unfold execOp
   simp only[ho,Yai,run_build w t _ r (hb r hr),Y4,Yas]
 unfold S.effBuild at h2
 split at h2
 .rename_i cs0 fields hz hu
  obtain⟨i,z,hi,hzz,hc⟩:=Zhz hz
  split at h2
  .rename_i places hpl
   refine fin _ z cs0 _ hc h2 λ cells hf=>?_
   unfold Program.built;simp only[hi,hu,hzz,Zop hpl];exact hf
  .simp[S.Rd.run] at h2
 .rename_i cs0 n e' hz hu
  obtain⟨i,z,hi,hzz,hc⟩:=Zhz hz
  split at h2
  .rename_i k hk
   refine fin _ z cs0 _ hc h2 λ cells hf=>?_
   unfold S.sizeA at hk
   cases hie:P.info? e' with
   | none=>rw[hie] at hk;cases hk
   | some ie =>
    rw[hie] at hk;simp at hk;subst hk;unfold Program.built;simp only[hi,hu,hzz,hie];exact hf
  .simp[S.Rd.run] at h2
 .simp[S.Rd.run] at h2
end
end
section
section
variable {P:Program}{B N:Nat}{w0:World}{H0:Zx}{s:S.St}{a:Act}{w:World}{H:Zx}{φ:Nat->Nat}{o:Oper}{e:S.Eff}{l:List Nat}
theorem Zjj (z:Array Value)(hz:0<z.size):∀n:Nat,((Array.range (n*z.size)).map (z[·%z.size]!)).toList=(Ys n z.toList).flatten
 | 0=>by simp
 | n+1=>by
  have ih:=Zjj z hz n;rw[Array.toList_map,Array.toList_range] at ih⊢;rw[List.replicate_succ',List.flatten_append,<- ih,Yci,Nat.one_mul,List.range_add,List.map_append]
  congr 1
  rw[List.map_map]
  apply Ybw
  .simp
  .intro i h1 h2
   simp only[List.length_map,List.length_range] at h1;have e1:(n*z.size+i)%z.size=i:=by
    rw[Nat.mul_comm,Nat.mul_add_mod,Nat.mod_eq_of_lt h1]
   simp[e1,h1]
theorem Zoq {z:List S.AV}{vz:List Value}(h:RepL H w z vz):∀n:Nat,RepL H w (S.timesA z n) ((Ys n vz).flatten)
 | 0=>by rw[S.timesA,RepL];rfl
 | n+1=>by
  rw[S.timesA,List.replicate_succ,List.flatten_cons];exact RepL.append h (Zoq h n)
theorem Zgh (z:List S.AV):∀n:Nat,(S.timesA z n).length=n*z.length
 | 0=>by rw[S.timesA];simp
 | n+1=>by rw[S.timesA,Yd,Zgh z n,Yci];omega
theorem Zhj {place:Nat->Option (Nat×Nat)}:∀{ps:List (Nat×List S.AV)} {cs out:List S.AV},S.fillA place cs ps=some out->out.length=cs.length
 | [],cs,out,h=>by simp[S.fillA] at h;subst h;rfl
 | (i,v)::r,cs,out,h=>by
  unfold S.fillA at h
  split at h
  .cases h
  .split at h
   .rename_i hh
    rw[Zhj h];simp only[Yd,Yq,List.length_drop];omega
   .cases h
theorem Zcp {t:TypeId}{n:Nat}(h:S.sizeA P t=some n):∃i,P.info? t=some i/\i.size=n:=by
 unfold S.sizeA at h
 cases hi:P.info? t with
 | none=>rw[hi] at h;cases h
 | some i=>rw[hi] at h;exact⟨i,rfl,by simpa using h⟩
theorem Zw5 (hG:Gam B N w0 H0 s a w H φ){d:Nat}(hd:d<N){n z:Nat}{cs:List S.AV}{cur:Array Value}{t:TypeId}{c:Nat}{w':World}{drop:Option Nat}
 (hw:w'=w.alloc (.cells cur t (0,0))\/w'=w.drew.alloc (.cells cur t (0,0))) {xs:List Value} (hx:RepL H w cs xs) (hcur:cur.toList.take cs.length=xs)
 (hn:n<=c) (hc:c<=maxLen) (hsz:cur.size=c*z) (hlen:cs.length=n*z) (hz:0<z) :
 GamX B N w0 H0 ((⟨some (d,.row n cs,some (t,z)),drop,none⟩:S.Eff).apply s) (a.put (some d) (.slice (some ⟨w.heap.size,0,none⟩) n c)) w':=by
 have hb:Below w.heap.size w w':=by
  rcases hw with rfl|rfl
  .exact(Yh _ _).alloc (Yb _) _
  .exact⟨rfl,rfl,rfl,by show w.heap.size<=(w.heap.push _).size;simp,λ k hk=>heap_alloc_old w.drew _ hk⟩
 have hsize:w'.heap.size=w.heap.size+1:=by
  rcases hw with rfl|rfl <;> (show(w.heap.push _).size=_;simp)
 have hnew:w'.heap[w.heap.size]?=some (.cells cur t (0,0)):=by
  rcases hw with rfl|rfl
  .exact heap_alloc_new w _
  .exact heap_alloc_new w.drew _
 obtain⟨H',hH'⟩:∃H':Zx,H'=λ b=>if b=w.heap.size then some cs.length else H b:=⟨_,rfl⟩
 have h1:H' w.heap.size=some cs.length:=by rw[hH'];simp
 have h2:∀b,b≠w.heap.size->H' b=H b:=λ b hb=>by rw[hH'];simp[hb]
 have hst:Stay H w H' w':=Zdg hG hb λ b hb=>h2 b (by omega)
 have hrange:w'.rangeAt w.heap.size 0 xs:=λ j v hj=>by
  rw[Yc hnew,Y9];have hj2:j<cs.length:=by rw[<- RepL.length hx];exact(Yg.1 hj).1
  rw[<- hcur,Ybi,if_pos hj2] at hj
  simpa using hj
 have hrep:RepC H' w' cs w.heap.size 0:=Zjf (RepL.stay hst cs xs hx) hrange;refine⟨H',φ,hG.next (.inr ⟨d,_,_,rfl,rfl,hd,.inr ?_,λ y hy=>⟨?_,λ t' g hne hdr hsm hg hg2=>?_⟩⟩) (hb.mono hG.base) hst (λ b hb'=>h2 b (by have:=hG.base;omega)) (λ b k hk=>?_) (λ _ _=>rfl) (λ i t' cs' hi=>?_) hG.inj (λ t' g _ _ hsm hg=>?_)⟩
 .rw[RepV]
  refine⟨_,c,rfl,λ h0=>Y5 (by rw[hlen,h0];simp),λ h0=>(by cases h0),.inr ⟨_,0,_,rfl,h1,by omega,hrep⟩⟩
 .cases hy
  exact⟨n,cs,rfl,.inr ⟨_,c,cur,rfl,hG.base,h1,hnew,hn,hc,hsz,hlen,hz⟩⟩
 .simp only[Yao,Option.some.injEq] at hg2
  obtain⟨y',hy'⟩:=Yae.1 hsm;obtain⟨x,_,hok⟩:=hG.tail t' y' hy';obtain⟨⟨k,hk⟩,_⟩:=hok.own hg;have:=(hG.bnd g k hk).lt;omega
 .by_cases hbe:b=w.heap.size
  .rw[hbe]
   exact⟨_,_,hnew⟩
  .rw[h2 b hbe] at hk
   exact(hG.bnd b k hk).below hb
 .have hi':s.hp i=some (t',cs'):=hi
  obtain⟨h3,h4,vs',h5,h6⟩:=hG.ent i t' cs' hi';have hlt:=Zkw hG (i:=i) (by rw[hi'];rfl);exact⟨h3,(h2 _ (by omega)).trans h4,vs',(hb.block _ hlt).trans h5,RepL.stay hst cs' vs' h6⟩
 .obtain⟨y',hy'⟩:=Yae.1 hsm
  obtain⟨x,_,hok⟩:=hG.tail t' y' hy';obtain⟨⟨k,hk⟩,_⟩:=hok.own hg;have:=(hG.bnd g k hk).lt;exact⟨hb.block g this,h2 g (by omega)⟩
theorem Zs1 (hG:Gam B N w0 H0 s a w H φ){t:TypeId}{len:Nat}{ps:Array (Nat×Operand)}(ho:o.op=.buildSlice t len ps)(he:((S.partsA ps.toList).bind λ vs=>S.effSlice P N o.dst t len vs).run s=some (e,l)):Zmh P B N w0 H0 o s e a w:=by
 obtain⟨vs,_,_,h1,h2⟩:=Zl _ _ he;have hp:=Zg0 hG h1;rw[<- Zky] at hp;unfold S.effSlice at h2
 split at h2
 .rename_i e' hu
  split at h2
  .rename_i z n hz hn
   split at h2
   .rename_i hh
    obtain⟨hzl,hn0,hl0,hbig⟩:=hh;obtain⟨cs,_,_,h3,h4⟩:=Zl _ _ h2;obtain⟨i,zv,hi,hzz,hc⟩:=Zhz hz;obtain⟨i',hi',hin⟩:=Zcp hn;rw[hi] at hi'
    cases hi'
    subst hin;have hcr:=Zdv hc H w;have hzsz:zv.cells.size=i.size:=by rw[<- hzl,<- RepL.length hcr];simp
    have hrep0:RepL H w (S.timesA z len) ((Array.range (len*i.size)).map (zv.cells[·%zv.cells.size]!)).toList:=by
     rw[<- hzsz,Zjj _ (by omega)];exact Zoq hcr len
    have hf:=Zah h3;obtain⟨r,hr,hrr⟩:=Zmb hp hrep0 hf;have hlen:cs.length=len*i.size:=by rw[Zhj hf,Zgh,hzl]
    have hpos:0<len*i.size:=Nat.mul_pos hl0 hn0;have hrun:(execOp a.eval o).run P w=.ok (.value (.slice (some ⟨w.heap.size,0,none⟩) len len)) (w.alloc (.cells r e')):=by
     unfold execOp;simp only[ho,Yai,run_buildSlice w t e' len _ r i zv hu hi hzz (by omega) (by omega) hr,Y4,Yas]
    intro K Q hK;refine Zey hrun (hK _ _ ?_);rcases Zco h4 with⟨h5,rfl⟩|⟨d,h5,hd,rfl⟩
    .rw[h5]
     have hb:Below w.heap.size w (w.alloc (.cells r e')):=(Yh _ _).alloc (Yb _) _;exact⟨H,φ,hG.next (.inl ⟨rfl,rfl⟩) (hb.mono hG.base) (Zdg hG hb λ _ _=>rfl) (λ _ _=>rfl) (λ b k hk=>(hG.bnd b k hk).below hb) (λ _ _=>rfl)
      (λ i t' cs' hi=>by
       have hi':s.hp i=some (t',cs'):=hi;obtain⟨h3,h4,vs',h5,h6⟩:=hG.ent i t' cs' hi';exact⟨h3,h4,vs',(hb.block _ (Zkw hG (by rw[hi'];rfl))).trans h5,RepL.stay (Zdg hG hb λ _ _=>rfl) cs' vs' h6⟩) hG.inj
      (λ t' g _ _ hsm hg=>by
       obtain⟨y',hy'⟩:=Yae.1 hsm;obtain⟨x,_,hok⟩:=hG.tail t' y' hy';obtain⟨⟨k,hk⟩,_⟩:=hok.own hg;exact⟨hb.block g (hG.bnd g k hk).lt,rfl⟩)⟩
    .rw[h5]
     have hrs:r.size=len*i.size:=by
      have:=RepL.length hrr;simp only[Yb6] at this;rw[this,hlen]
     refine Zw5 hG hd (.inl rfl) hrr ?_ (Yb _) (by simp only[maxLen];have:len<=len*i.size:=Nat.le_mul_of_pos_right _ hn0;omega) hrs hlen hn0;rw[List.take_of_length_le (by simp[hrs,hlen])]
   .simp[S.Rd.run] at h2
  .simp[S.Rd.run] at h2
 .simp[S.Rd.run] at h2
theorem Zrm {t:TypeId}{b off q:Nat}{cs:List S.AV}{vs:List Value}{v:S.AV}(hr:w.rangeAt b q vs)(hx:RepL H w cs vs)(h:S.loadA P t cs off=some v) :
 ∃u,(Instr.loadAt t (.pointer (some ⟨b,q+off,none⟩))).run P w=.ok u w/\RepV H w v u:=by
 unfold S.loadA at h
 cases hu:P.underlying t with
 | none=>simp[S.isAggA,hu] at h
 | some d =>
  cases hd:d.isRow with
  | true =>
   simp only[S.isAggA,hu,Yb8,hd] at h
   cases hn:S.sizeA P t with
   | none=>rw[hn] at h;cases h
   | some n =>
    rw[hn] at h;simp only at h
    split at h
    .rename_i hle
     cases h
     obtain⟨i,hi,hin⟩:=Zcp hn;have hl:=RepL.length hx;refine⟨.agg ((vs.drop off).take n).toArray,run_loadAt_mid w b (q+off) t ((vs.drop off).take n) d (λ j u hj=>?_) hu hd ?_,?_⟩
     .rw[Ybi] at hj
      split at hj
      .rw[List.getElem?_drop] at hj
       have:=hr (off+j) u hj;rw[<- Nat.add_assoc] at this;exact this
      .cases hj
     .rw[hi]
      simp only[Yb8,hin,Yq,List.length_drop]
      congr 1
      omega
     .rw[RepV]
      exact⟨_,rfl,RepL.take n (RepL.drop off hx)⟩
    .cases h
  | false =>
   simp only[S.isAggA,hu,Yb8,hd] at h;obtain⟨u,hu2,_,hv⟩:=RepL.at_ hx h;refine⟨u,?_,hv⟩;have hagg':(isAgg t).run P w=.ok false w:=by
    unfold isAgg;rw[Yai,run_underlying hu w]
    cases d <;> simp_all
   have hc:=hr off u hu2;simp only[Instr.loadAt,Instr.sureAddr,Yai,Yas,Y4,loadVar,hagg',Bool.false_eq_true,if_false,run_load,hc]
theorem Zhk {b:Nat}{vs:List Value}{t:TypeId}{fr:Nat×Nat}(h:w.heap[b]?=some (.cells vs.toArray t fr)):w.rangeAt b 0 vs:=λ j v hj=>by
 rw[Yc h,Y9]
 simpa using hj
theorem Zw6 (hG:Gam B N w0 H0 s a w H φ){t:TypeId}{x:Operand}(ho:o.op=.load t x)(he:((S.evalA x).bind λ v=>S.effLoad P N o.dst t v).run s=some (e,l)):Zmh P B N w0 H0 o s e a w:=by
 obtain⟨v,_,_,h1,h2⟩:=Zl _ _ he;have hv:=Zr hG h1;have fin:∀(b off q:Nat)(cs:List S.AV)(vs:List Value)(l:List Nat),a.eval x=.pointer (some ⟨b,q+off,none⟩)->w.rangeAt b q vs->RepL H w cs vs->((S.Rd.ofOpt (S.loadA P t cs off)).bind λ v=>S.leave N o.dst v none none).run s=some (e,l)->Zmh P B N w0 H0 o s e a w:=λ b off q cs vs l hx hr hl h=>by
  obtain⟨u,_,_,h3,h4⟩:=Zl _ _ h;obtain⟨r,hrun,hrep⟩:=Zrm hr hl (Zah h3);refine Zac hG h4 (.inr hrep) ?_;unfold execOp;simp only[ho,hx,Yai,hrun,Y4,Yas]
 unfold S.effLoad at h2
 split at h2
 .rename_i i off
  simp only[S.Rd.run] at h2;rcases hv with⟨i',off',hi,hsm,hx⟩|hv
  .cases hi
   obtain⟨⟨t',cs⟩,hcs⟩:=Yae.1 hsm;rw[hcs] at h2
   split at h2
   .rename_i e' l' h3
    simp only[Option.some.injEq,Prod.mk.injEq] at h2;obtain⟨rfl,_⟩:=h2;obtain⟨_,_,vs,h4,h5⟩:=hG.ent i t' cs hcs;exact fin (φ i) off 0 cs vs _ (by rw[Y9];exact hx) (Zhk h4) h5 h3
   .cases h2
  .rw[RepV] at hv
   exact hv.elim
 .rename_i cs off
  rcases hv with⟨i',off',hi,_⟩|hv
  .cases hi
  .rw[RepV] at hv
   obtain⟨b,q,k,hx,_,_,hc⟩:=hv;obtain⟨vs,h3,h4⟩:=Zde hc;exact fin b off q cs vs _ hx h4 h3 h2
 .simp[S.Rd.run] at h2
theorem Zs2 (hG:Gam B N w0 H0 s a w H φ){t:TypeId}{x y:Operand}(ho:o.op=.store t x y)(he:((S.evalA x).bind λ v=>(S.evalA y).bind λ u=>(S.Rd.ofOpt u.cells).bind λ cs=>S.effStore P o.dst t cs v).run s=some (e,l)):Zmh P B N w0 H0 o s e a w:=by
 obtain⟨v,_,_,h1,h2⟩:=Zl _ _ he;obtain⟨u,_,_,h3,h4⟩:=Zl _ _ h2;obtain⟨ds,_,_,h5,h6⟩:=Zl _ _ h4;have hv:=Zr hG h1;have hc:=Zah h5;obtain⟨us,eus,hus⟩:=Zje (Zjh (Zr hG h3) hc) hc;unfold S.effStore at h6
 split at h6
 .rename_i i off
  simp only[S.Rd.run] at h6;rcases hv with⟨i',off',hi,hsm,hx⟩|hv
  .cases hi
   obtain⟨⟨t',cs⟩,hcs⟩:=Yae.1 hsm;rw[hcs] at h6
   split at h6
   .rename_i e' l' h7
    simp only[Option.some.injEq,Prod.mk.injEq] at h6;obtain⟨rfl,_⟩:=h6;simp only at h7
    split at h7
    .rename_i hh
     obtain⟨hdst,hsz,hle⟩:=hh;simp only[S.Rd.run,Option.some.injEq,Prod.mk.injEq] at h7;obtain⟨rfl,_⟩:=h7;obtain⟨hB,hHn,vs,h8,h9⟩:=hG.ent i t' cs hcs;have hlv:=RepL.length h9;have hlu:=RepL.length hus;obtain⟨inf,hi,hin⟩:=Zcp hsz;have hst:=run_storeCells_at P (φ i) off t' us 0 vs.toArray w h8 (by simp;omega) (RepL.one hus);simp only[Ybd] at hst;have hrun:(execOp a.eval o).run P w=.ok .skip (w.setRow (φ i) (vs.take off++us++vs.drop (off+us.length)).toArray):=by
      unfold execOp;simp only[ho,hx,Instr.storeAt,Instr.sureAddr,Yai,Yas,Y4,storeVar,sizeOf,typeInfo,run_program,hi];rw[eus];simp only[hin,Ycq,hlu,ne_eq,not_true_eq_false,if_false,hst,Y4]
     have hother:∀k,k≠φ i->(w.setRow (φ i) (vs.take off++us++vs.drop (off+us.length)).toArray).heap[k]?=w.heap[k]?:=λ k hk=>setRow_other w _ k _ hk
     have hself:=setRow_heap w (φ i) vs.toArray (vs.take off++us++vs.drop (off+us.length)).toArray t' (0,0) h8;have hsize:(w.setRow (φ i) (vs.take off++us++vs.drop (off+us.length)).toArray).heap.size=w.heap.size:=by simp[World.setRow]
     have hb:Below B w (w.setRow (φ i) (vs.take off++us++vs.drop (off+us.length)).toArray):=⟨rfl,rfl,rfl,by rw[hsize];exact Yb _,λ k hk=>hother k (by omega)⟩
     have hst2:Stay H w H (w.setRow (φ i) (vs.take off++us++vs.drop (off+us.length)).toArray):=λ b k hb=>⟨k,hb,Yb _,λ q _=>World.cell?_of_block (hother b (λ e=>by rw[e,hHn] at hb;cases hb))⟩
     intro K Q hK;refine Zsy hrun (hK _ _ ?_);rw[hdst];refine⟨H,φ,hG.next (.inl ⟨rfl,rfl⟩) hb hst2 (λ _ _=>rfl) (λ b k hk=>(hG.bnd b k hk).of (hother b λ e=>by rw[e,hHn] at hk;cases hk)) (λ _ _=>rfl) (λ j t2 cs2 hj=>?_) (λ j j' hj hj' hjj=>?_) (λ t2 g _ _ hsm2 hg=>?_)⟩
     .unfold S.Eff.apply at hj
      simp only at hj;by_cases c:j=i
      .subst c
       rw[if_pos rfl] at hj
       cases hj
       refine⟨hB,hHn,_,hself,?_⟩;have:=RepL.append (RepL.append (RepL.take off h9) hus) (RepL.drop (off+ds.length) h9);rw[<- hlu] at this⊢;exact RepL.stay hst2 _ _ this
      .rw[if_neg c] at hj
       obtain⟨q1,q2,vs2,q3,q4⟩:=hG.ent j t2 cs2 hj;refine⟨q1,q2,vs2,(hother _ λ e=>c (hG.inj j i (by rw[hj];rfl) hsm e)).trans q3,RepL.stay hst2 _ _ q4⟩
     .have hlive:∀j,(((⟨none,none,some (i,(t',cs.take off++ds++cs.drop (off+ds.length)))⟩:S.Eff).apply s).hp j).isSome=true->(s.hp j).isSome=true:=λ j hj=>by
       unfold S.Eff.apply at hj;simp only at hj;by_cases c:j=i
       .rw[c];exact hsm
       .rw[if_neg c] at hj;exact hj
      exact hG.inj j j' (hlive j hj) (hlive j' hj') hjj
     .obtain⟨y',hy'⟩:=Yae.1 hsm2
      obtain⟨x2,_,hok⟩:=hG.tail t2 y' hy';obtain⟨⟨k,hk⟩,_⟩:=hok.own hg;exact⟨hother g (λ e=>by rw[e,hHn] at hk;cases hk),rfl⟩
    .simp[S.Rd.run] at h7
   .cases h6
  .rw[RepV] at hv
   exact hv.elim
 .simp[S.Rd.run] at h6
end
end
section
def AFn (P:Program)(W:World->Prop)(f:FuncId)(xs:List S.AV)(r:S.AV)(y:S.Tail):Prop :=
 ∀(H:Zx)(w:World)(vs:List Value),(∀b k,H b=some k->Bk w b)->W w->RepT H w xs vs->Calls P f vs.toArray w λ e w' =>
  ∃v H',e=.returned v/\Below w.heap.size w w'/\(∀b,b<w.heap.size->H' b=H b)/\(∀b k,H' b=some k->Bk w' b)/\RepV H' w' r v/\∀z,y=some z->TailOk H' w' w.heap.size z r v
section
variable {P:Program}{B N:Nat}{w0:World}{H0:Zx}{s:S.St}{a:Act}{w:World}{H:Zx}{φ:Nat->Nat}{o:Oper}{e:S.Eff}{l:List Nat}
theorem Zs3 (t ty e:TypeId)(i:TypeInfo)(z:Value)(ht:P.underlying t=some (.slice e))(hi:P.info? e=some i)(hz:i.zero=some z)(hzs:z.cells.size=i.size)(hsz:0<i.size)
 (base:Nat) (v:Value) (n:Nat) (xs:List Value) (hown:w.ownsRow base e i.size v n xs) (A:Option Addr) (m c:Nat) (news:List Value) (hl:news.length=m*i.size) (hA:A=none->m=0)
 (hnews:∀ad,A=some ad->∀j u,news[j]?=some u->w.cell? (ad.add j)=some u) (h1:∀u∈news,u.oneCell'=true) (h63:n+m<=1000000) (hbytes:(n+m)*i.bytes<=140737488355328) :
 ∃v' w',(Builtin.append_ #[t,t] ty #[v,.slice A m c]).run P w=.ok v' w' /\
  ((m=0/\v'=v/\w'=w)\/(∃g cap cur cur',v=.slice (some ⟨g,0,none⟩) n cap/\v'=.slice (some ⟨g,0,none⟩) (n+m) cap/\w.heap[g]?=some (.cells cur e (0,0))/\n+m<=cap/\cap<=maxLen/\w'=w.setRow g cur'/\cur'.size=cap*i.size/\cur'.toList.take ((n+m)*i.size)=xs++news/\base<=g)\/(∃cap cur',v'=.slice (some ⟨w.heap.size,0,none⟩) (n+m) cap/\n+m<=cap/\cap<=maxLen/\w'=w.drew.alloc (.cells cur' e (0,0))/\cur'.size=cap*i.size/\cur'.toList.take ((n+m)*i.size)=xs++news)):=by
 have hlen:(xs++news).length=(n+m)*i.size:=by rw[Yd,hown.1,hl,Yci]
 rcases A with _|ad
 .have h0:=hA rfl
  subst h0;exact⟨v,w,Zcc w base t _ e i i.size ht hi v n xs hown c,.inl ⟨rfl,rfl,rfl⟩⟩
 have hn:=hnews ad rfl;have grown:∀(old:Nat),n+m<=grownCap w (n+m) old e/\grownCap w (n+m) old e<=maxLen/\(xs.toArray++news.toArray++Builtin.zeroCells z.cells (grownCap w (n+m) old e-(n+m))).size=grownCap w (n+m) old e*i.size /\
  (xs.toArray++news.toArray++Builtin.zeroCells z.cells (grownCap w (n+m) old e-(n+m))).toList.take ((n+m)*i.size)=xs++news:=λ old=>by
  have hge:=grownCap_ge w (n+m) old e;have hcm:grownCap w (n+m) old e<=maxLen:=grownCap_le_maxLen w (n+m) old e (by simp only[maxLen];omega);refine⟨hge,hcm,?_,?_⟩
  .simp only[Array.size_append,Ycq,size_zeroCells,hzs,hown.1,hl,<- Yci]
   congr 1
   omega
  .simp only[Array.toList_append,Yn]
   rw[<- Yn,<- hlen];exact List.take_left
 rcases hown.2 with⟨rfl,rfl⟩|⟨g,cap,cur,rfl,hbg,hg,hnc,hcm,hcs,htake⟩
 .have hx:xs=[]:=Y5 (by simpa using hown.1)
  subst hx;by_cases hm:m=0
  .subst hm
   refine⟨.slice none 0 0,w,?_,.inl ⟨rfl,rfl,rfl⟩⟩;simp[Builtin.append_,run_underlying ht,sizeOf,typeInfo,hi,Builtin.lenOf,Builtin.firstCells,loadCells,loadCellsFrom]
  .have hr:=run_append_nil (P:=P) w t ty e i z ht hi hz ad m c news hl hn (by omega) (by omega) (by have hb:=hbytes;simp only[Y9] at hb;omega)
   obtain⟨q1,q2,q3,q4⟩:=grown 0;simp only[Y9,List.nil_append,Array.empty_append] at q1 q2 q3 q4⊢;exact⟨_,_,hr,.inr (.inr ⟨_,_,rfl,q1,q2,rfl,q3,q4⟩)⟩
 .by_cases hroom:n+m<=cap
  .have hfit:n*i.size+news.length<=cur.size:=by rw[hl,hcs,<- Yci];exact Nat.mul_le_mul_right _ hroom
   have hr:=run_append_room (P:=P) w t ty e i ht hi g n cap cur hg ad m c news hl hn h1 hroom hfit;refine⟨_,_,hr,.inr (.inl ⟨g,cap,cur,_,rfl,rfl,hg,hroom,hcm,rfl,?_,?_,hbg⟩)⟩
   .simp only[Ycq,Yd,Yq,List.length_drop,Yb6]
    omega
   .rw[htake,<- hlen]
    exact List.take_left
  .have holds:∀j u,xs[j]?=some u->w.cell? ((⟨g,0,none⟩:Addr).add j)=some u:=hown.cells (g:=g) rfl
   have hr:=run_append_grow (P:=P) w t ty e i z ht hi hz ⟨g,0,none⟩ n cap xs hown.1 holds ad m c news hl hn (by omega) (by omega) (growslice_fits (by omega) hbytes);obtain⟨q1,q2,q3,q4⟩:=grown cap;exact⟨_,_,hr,.inr (.inr ⟨_,_,rfl,q1,q2,rfl,q3,q4⟩)⟩
theorem Zmc {y:TypeId×Nat}{n:Nat}{cs:List S.AV}{v:Value}{t:TypeId}{z:Nat}(h:TailOk H w B y (.row n cs) v)(hr:RepV H w (.row n cs) v)(hy:(y.1=t/\y.2=z)\/y.2=0)(hlen:cs.length=n*z):∃xs,RepL H w cs xs/\w.ownsRow B t z v n xs/\∀g,v.ownBlock=some g->H g=some cs.length:=by
 obtain⟨n',cs',e,hh⟩:=h
 cases e
 rw[RepV] at hr;obtain⟨A,c,ev,h0,_,hc⟩:=hr;rcases hh with⟨rfl,rfl⟩|⟨g,cap,cur,rfl,hB,hH,hg,hnc,hcm,hsz,hl,hz⟩
 .have:=h0 rfl
  subst this;exact⟨[],by rw[RepL],World.ownsRow_nil w B t z,λ g hg=>by simp[Yao] at hg⟩
 .obtain⟨rfl,rfl⟩:y.1=t/\y.2=z:=by
   rcases hy with hy|hy
   .exact hy
   .omega
  have hle:cs.length<=cur.size:=by rw[hl,hsz];exact Nat.mul_le_mul_right _ hnc
  refine⟨cur.toList.take cs.length,?_,⟨?_,.inr ⟨g,cap,cur,rfl,hB,hg,hnc,hcm,hsz,by rw[hl]⟩⟩,λ g' hg'=>?_⟩
  .rcases hc with rfl|⟨b,off,k,hA,hb,_,hcc⟩
   .rw[List.length_nil,List.take_zero,RepL]
   .cases ev
    cases hA
    obtain⟨vs,h1,h2⟩:=Zde hcc;have e1:vs=cur.toList.take cs.length:=by
     have hvl:=RepL.length h1
     apply Ybw
     .rw[hvl,Yq];simp;omega
     .intro j hj hj2
      have:=h2 j vs[j] (List.getElem?_eq_getElem hj);rw[Yc hg,Y9] at this;rw[List.getElem_take];have hj3:j<cur.size:=by omega
      rw[Array.getElem?_eq_getElem hj3] at this
      simpa using (Option.some.inj this).symm
    rw[<- e1];exact h1
  .rw[Yq]
   simp;omega
  .simp only[Yao,Option.some.injEq] at hg'
   subst hg';exact hH
theorem Zqd (hG:Gam B N w0 H0 s a w H φ){t:TypeId}{sl:Nat}{x:Operand}{c:Call}(ho:o.op=.call c)(hcal:c.callee=.builtin .append)(hargs:c.args.toList=[.tmp sl,x])(htys:c.argTypes.toList=[t,t])
 (he:((S.evalA x).bind λ v=>S.effAppend P N o.dst t sl v).run s=some (e,l)):Zmh P B N w0 H0 o s e a w:=by
 have ha:c.args=#[.tmp sl,x]:=by rw[<- Yby (xs:=c.args),hargs]
 have hty:c.argTypes=#[t,t]:=by rw[<- Yby (xs:=c.argTypes),htys]
 obtain⟨v,_,_,h1,h2⟩:=Zl _ _ he;have hv:=Zr hG h1;unfold S.effAppend at h2
 split at h2
 .rename_i e' hu
  split at h2
  .rename_i i hi
   split at h2
   .rename_i z hz
    simp only[S.Rd.run] at h2
    cases hsl:s.sl sl with
    | none=>rw[hsl] at h2;cases htl:s.tl sl <;> (rw[htl] at h2;simp[S.Rd.run] at h2)
    | some old =>
     cases htl:s.tl sl with
     | none=>rw[hsl,htl] at h2;simp[S.Rd.run] at h2
     | some y =>
      rw[hsl,htl] at h2
      cases old with
      | row n cs =>
       cases v with
       | row m ds =>
        simp only at h2
        split at h2
        .rename_i e1 l1 h3
         simp only[Option.some.injEq,Prod.mk.injEq] at h2;obtain⟨rfl,_⟩:=h2
         split at h3
         .rename_i e2 l2 h4
          simp only[Option.some.injEq,Prod.mk.injEq] at h3;obtain⟨rfl,_⟩:=h3
          split at h4
          .rename_i hh
           obtain⟨hy,hzs,hsz,hlc,hld,h63,hby,hdst⟩:=hh;have hvr:RepV H w (.row m ds) (a.eval x):=by
            rcases hv with⟨_,_,hq,_⟩|hv
            .cases hq
            .exact hv
           rw[RepV] at hvr;obtain⟨A,cp,hx,hm0,hA0,hcx⟩:=hvr;have hold:RepV H w (.row n cs) (a.tmps.getD sl undef):=by
            rcases hG.slot sl _ hsl with⟨_,_,hq,_⟩|hv
            .cases hq
            .exact hv
           obtain⟨x',hx',hok⟩:=hG.tail sl y htl;rw[hsl] at hx'
           cases hx'
           obtain⟨xs,hxs,hown,hHg⟩:=Zmc hok hold (t:=e') (z:=i.size) (by obtain⟨y1,y2⟩:=y;exact hy) hlc;obtain⟨news,hnews,hcells⟩:∃news,RepL H w ds news/\∀ad,A=some ad->∀j u,news[j]?=some u->w.cell? (ad.add j)=some u:=by
            rcases hcx with rfl|⟨b,off,k,rfl,_,_,hcc⟩
            .exact⟨[],by rw[RepL],λ ad _ j u hj=>by simp at hj⟩
            .obtain⟨vs,q1,q2⟩:=Zde hcc
             refine⟨vs,q1,λ ad had j u hj=>?_⟩
             cases had
             rw[Addr.add_mid];exact q2 j u hj
           have hln:=RepL.length hnews;obtain⟨v',w',hrun,hcase⟩:=Zs3 (P:=P) t o.type e' i z hu hi hz hzs hsz B _ n xs hown A m cp news (by rw[hln,hld]) hA0 hcells (RepL.one hnews) h63 hby;have hex:(execOp a.eval o).run P w=.ok (.value v') w':=by
            have e3:a.eval (.tmp sl)=a.tmps.getD sl undef:=rfl;unfold execOp;simp only[ho,resolve,hcal,ha,hty,invoke,builtin,Yai,Yas,Y4,List.map_toArray,List.map_cons,List.map_nil,hx,e3,hrun]
           intro K Q hK;refine Zey hex (hK _ _ ?_);have hall:=RepL.append hxs hnews;have hlen:(cs++ds).length=(n+m)*i.size:=by rw[Yd,hlc,hld,Yci]
           rcases Zco h4 with⟨h5,rfl⟩|⟨d,h5,hd,rfl⟩
           .exfalso
            rw[h5] at hdst
            cases hdst
           .rw[h5]
            rcases hcase with⟨rfl,rfl,rfl⟩|⟨g,cap,cur,cur',hvg,rfl,hg,hnm,hcm,rfl,hsz',htake,hBg⟩|⟨cap,cur',rfl,hnm,hcm,rfl,hsz',htake⟩
            .have hds:ds=[]:=Y5 (by rw[hld];simp)
             subst hds;rw[Ybd,List.append_nil];refine⟨H,φ,hG.next (.inr ⟨d,_,_,rfl,rfl,hd,.inr hold,λ q hq=>⟨?_,λ t' g hne hdr hsm hg hg2=>?_⟩⟩) (Yh _ _) (Stay.refl _ _) (λ _ _=>rfl) hG.bnd (λ _ _=>rfl) hG.ent hG.inj (λ _ _ _ _ _ _=>⟨rfl,rfl⟩)⟩
             .cases hq
              obtain⟨n',cs',e9,hh⟩:=hok
              cases e9
              rcases hh with⟨q1,q2⟩|⟨g,cap,cur,q1,q2,q3,q4,q5,q6,q7,q8,q9⟩
              .exact⟨n,cs,rfl,.inl ⟨q1,q2⟩⟩
              .obtain⟨y1,y2⟩:=y
               obtain⟨rfl,rfl⟩:y1=e'/\y2=i.size:=by
                rcases hy with hy|hy
                .exact hy
                .simp only at q9;omega
               exact⟨n,cs,rfl,.inr ⟨g,cap,cur,q1,q2,q3,q4,q5,q6,q7,q8,q9⟩⟩
             .exact hG.tinj t' sl (λ e9=>hdr (by rw[e9])) hsm (by rw[htl];rfl) g hg hg2
            .have hHg':=hHg g (by rw[hvg];rfl)
             have hcur:cur.toList.take (n*i.size)=xs:=by
              rcases hown.2 with⟨q1,_⟩|⟨g2,cap2,cur2,q1,_,q2,_,_,_,q3⟩
              .rw[hvg] at q1;cases q1
              .rw[hvg] at q1
               cases q1
               rw[hg] at q2
               cases q2
               exact q3
             have hxl:=RepL.length hxs;have hother:∀k,k≠g->(w.setRow g cur').heap[k]?=w.heap[k]?:=λ k hk=>setRow_other w _ k _ hk
             have hself:=setRow_heap w g cur cur' e' (0,0) hg;have hsize:(w.setRow g cur').heap.size=w.heap.size:=by simp[World.setRow]
             have hgl:g<w.heap.size:=(Yv.1 hg).1;have hb:Below B w (w.setRow g cur'):=⟨rfl,rfl,rfl,by rw[hsize];exact Yb _,λ k hk=>hother k (by omega)⟩
             obtain⟨H',hH'⟩:∃H':Zx,H'=λ b=>if b=g then some (cs++ds).length else H b:=⟨_,rfl⟩
             have q1:H' g=some (cs++ds).length:=by rw[hH'];simp
             have q2:∀b,b≠g->H' b=H b:=λ b hb=>by rw[hH'];simp[hb]
             have hst:Stay H w H' (w.setRow g cur'):=λ b k hk=>by
              by_cases c:b=g
              .subst c
               rw[hHg'] at hk
               cases hk
               refine⟨_,q1,by rw[Yd];omega,λ q hq=>?_⟩;rw[Yc hself,Yc hg];have e1:cur'[q]?=(xs++news)[q]?:=by
                rw[<- htake,Ybi,if_pos (by rw[<- hlen,Yd];omega)];simp
               have e2:cur[q]?=xs[q]?:=by
                rw[<- hcur,Ybi,if_pos (by rw[<- hlc];omega)];simp
               rw[e1,e2,List.getElem?_append_left (by omega)]
              .exact⟨k,(q2 b c).trans hk,Yb _,λ q _=>World.cell?_of_block (hother b c)⟩
             have hrange:(w.setRow g cur').rangeAt g 0 (xs++news):=λ j u hj=>by
              rw[Yc hself,Y9];have hj2:j<(xs++news).length:=(Yg.1 hj).1;have hj3:j<(n+m)*i.size:=by
               rw[<- hlen,Yd];rw[Yd] at hj2;omega
              rw[<- htake,Ybi,if_pos hj3] at hj
              simpa using hj
             refine⟨H',φ,hG.next (.inr ⟨d,_,_,rfl,rfl,hd,.inr ?_,λ q hq=>⟨?_,λ t' g' hne hdr hsm hg1 hg2=>?_⟩⟩) hb hst (λ b hb'=>q2 b (by omega)) (λ b k hk=>?_) (λ _ _=>rfl) (λ j t2 cs2 hj=>?_) hG.inj (λ t' g' _ hdr hsm hg1=>?_)⟩
             .rw[RepV]
              exact⟨_,cap,rfl,λ h0=>Y5 (by rw[hlen,h0];simp),λ h0=>(by cases h0),.inr ⟨g,0,_,rfl,q1,by omega,Zjf (RepL.stay hst _ _ hall) hrange⟩⟩
             .cases hq
              exact⟨n+m,cs++ds,rfl,.inr ⟨g,cap,cur',rfl,hBg,q1,hself,hnm,hcm,hsz',hlen,hsz⟩⟩
             .simp only[Yao,Option.some.injEq] at hg2
              subst hg2;exact hG.tinj t' sl (λ e9=>hdr (by rw[e9])) hsm (by rw[htl];rfl) g hg1 (by rw[hvg];rfl)
             .by_cases c:b=g
              .rw[c];exact⟨_,_,hself⟩
              .rw[q2 b c] at hk
               exact(hG.bnd b k hk).of (hother b c)
             .have hj':s.hp j=some (t2,cs2):=hj
              obtain⟨p1,p2,vs2,p3,p4⟩:=hG.ent j t2 cs2 hj';have hne:φ j≠g:=λ e9=>by rw[e9,hHg'] at p2;cases p2
              exact⟨p1,(q2 _ hne).trans p2,vs2,(hother _ hne).trans p3,RepL.stay hst _ _ p4⟩
             .have hne:g'≠g:=λ e9=>by
               subst e9;exact hG.tinj t' sl (λ e9=>hdr (by rw[e9])) hsm (by rw[htl];rfl) g' hg1 (by rw[hvg];rfl)
              exact⟨hother g' hne,q2 g' hne⟩
            .exact Zw5 hG hd (.inr rfl) hall (by rw[hlen];exact htake) hnm hcm hsz' hlen hsz
          .simp[S.Rd.run] at h4
         .cases h3
        .cases h2
       | _=>simp[S.Rd.run] at h2
      | _=>cases v <;> simp[S.Rd.run] at h2
   .simp[S.Rd.run] at h2
  .simp[S.Rd.run] at h2
 .simp[S.Rd.run] at h2
theorem Zw7 (hG:Gam B N w0 H0 s a w H φ){W:World->Prop}(hW:W w){call:FuncId->List S.AV->Option (S.AV×S.Tail)}(hcall:∀f xs r y,call f xs=some (r,y)->AFn P W f xs r y){c:Call}(ho:o.op=.call c){f:Operand}(hcal:c.callee=.value f)
 (he:((S.evalA f).bind λ g=>(S.evalsA c.args.toList).bind λ vs=>S.effCall P N call o.dst g vs).run s=some (e,l)):Zmh P B N w0 H0 o s e a w:=by
 obtain⟨g,_,_,h1,h2⟩:=Zl _ _ he;obtain⟨vs,_,_,h3,h4⟩:=Zl _ _ h2;have hg:=Zr hG h1;unfold S.effCall at h4
 split at h4
 .rename_i k
  split at h4
  .rename_i hh
   obtain⟨hok,hfree⟩:=hh
   split at h4
   .rename_i r y hr
    have hgv:a.eval f=.func (.func k) #[] #[]:=by
     rcases hg with⟨_,_,hq,_⟩|hg
     .cases hq
     .rw[RepV] at hg;exact hg
    have hargs:=Zkv hG h3 hfree;obtain⟨fn, hfn, hbody, hname⟩ : ∃fn, P.funcs[k]? = some fn ∧ fn.body.isNone = false ∧ (fn.name == "runtime.NumGoroutine") = false := by
     unfold S.okFn at hok
     split at hok
     .rename_i fn hfn
      simp only[Bool.and_eq_true,Bool.not_eq_true'] at hok;exact⟨fn,hfn,by have:=hok.1;cases hb:fn.body <;> simp_all,hok.2⟩
     .cases hok
    have hex:(execOp a.eval o).run P w=.ok (.enter k (c.args.toList.map a.eval).toArray) w:=by
     unfold execOp;simp only[ho,resolve,hcal,hgv,Deferred.ofValue,Yai,Yas,Y4,invoke,callFunc,run_program,hfn,hname,hbody,Bool.false_eq_true,if_false]
     congr 2
     simp;rw[<- Array.toList_map,Yby]
    intro K Q hK;unfold Oper.wp;rw[hex];refine Calls.mono (hcall k vs r y hr H w _ hG.bnd hW hargs) ?_;rintro e' w' ⟨v,H',rfl,hb,hH,hbnd,hrep,htail⟩;refine hK _ _ ?_;have hst:Stay H w H' w':=Zdg hG hb hH;have hent:∀i t' cs',s.hp i=some (t',cs')->B<=φ i/\H' (φ i)=none/\∃vs:List Value,w'.heap[φ i]?=some (.cells vs.toArray t' (0,0))/\RepL H' w' cs' vs:=λ i t' cs' hi=>by
     obtain⟨p1,p2,vs2,p3,p4⟩:=hG.ent i t' cs' hi;have hlt:=Zkw hG (i:=i) (by rw[hi];rfl);exact⟨p1,(hH _ hlt).trans p2,vs2,(hb.block _ hlt).trans p3,RepL.stay hst _ _ p4⟩
    have htl:∀t' g,(s.tl t').isSome=true->(a.tmps.getD t' undef).ownBlock=some g->g<w.heap.size:=λ t' g hsm hg=>by
     obtain⟨y',hy'⟩:=Yae.1 hsm;obtain⟨x,_,hok⟩:=hG.tail t' y' hy';obtain⟨⟨k,hk⟩,_⟩:=hok.own hg;exact(hG.bnd g k hk).lt
    rcases Zco h4 with⟨h5,rfl⟩|⟨d,h5,hd,rfl⟩
    .rw[h5]
     exact⟨H',φ,hG.next (.inl ⟨rfl,rfl⟩) (hb.mono hG.base) hst (λ b hb'=>hH b (by have:=hG.base;omega)) hbnd (λ _ _=>rfl) (λ i t' cs' hi=>hent i t' cs' hi) hG.inj (λ t' g _ _ hsm hg=>⟨hb.block g (htl t' g hsm hg),hH g (htl t' g hsm hg)⟩)⟩
    .rw[h5]
     refine⟨H',φ,hG.next (.inr ⟨d,_,_,rfl,rfl,hd,.inr hrep,λ z hz=>⟨?_,λ t' g hne hdr hsm hg1 hg2=>?_⟩⟩) (hb.mono hG.base) hst (λ b hb'=>hH b (by have:=hG.base;omega)) hbnd (λ _ _=>rfl) (λ i t' cs' hi=>hent i t' cs' hi) hG.inj (λ t' g _ _ hsm hg=>⟨hb.block g (htl t' g hsm hg),hH g (htl t' g hsm hg)⟩)⟩
     .obtain⟨n,cs,e9,hh⟩:=htail z hz
      refine⟨n,cs,e9,?_⟩;rcases hh with hh|⟨g,cap,cur,q1,q2,q3⟩
      .exact .inl hh
      .exact .inr ⟨g,cap,cur,q1,Nat.le_trans hG.base q2,q3⟩
     .obtain⟨n,cs,e9,hh⟩:=htail z hz
      rcases hh with⟨q1,_⟩|⟨g',cap,cur,q1,q2,q3⟩
      .rw[q1] at hg2;simp[Yao] at hg2
      .rw[q1] at hg2
       simp only[Yao,Option.some.injEq] at hg2;subst hg2;have:=htl t' g' hsm hg1;omega
   .simp[S.Rd.run] at h4
  .simp[S.Rd.run] at h4
 .simp[S.Rd.run] at h4
theorem Zjk (hG:Gam B N w0 H0 s a w H φ){m:Sem Value}(hex:execOp a.eval o=(do pure (.value (← m))))(he:((S.Rd.ofOpt (S.pureRun P m)).bind λ r=>(S.Rd.ofOpt (S.constA r)).bind λ z=>S.leave N o.dst z none none).run s=some (e,l)):Zmh P B N w0 H0 o s e a w:=by
 obtain⟨r,_,_,h1,h2⟩:=Zl _ _ he;obtain⟨z,_,_,h3,h4⟩:=Zl _ _ h2;refine Zac hG h4 (.inr (Zdf (Zah h3) H w).1) ?_;rw[hex];simp only[Yai,Zjg m (Zah h1) w,Y4,Yas]
theorem Zs4 (hG:Gam B N w0 H0 s a w H φ){xt:TypeId}{x:Operand}{f:Nat}(ho:o.op=.field xt x f)(he:((S.evalA x).bind λ v=>S.effField P N o.dst xt f v).run s=some (e,l)):Zmh P B N w0 H0 o s e a w:=by
 obtain⟨v,_,_,h1,h2⟩:=Zl _ _ he;have hv:=Zr hG h1;unfold S.effField at h2
 split at h2
 .rename_i cs
  split at h2
  .rename_i fields hu
   split at h2
   .rename_i fd hfd
    obtain⟨u,_,_,h3,h4⟩:=Zl _ _ h2;have h5:=Zah h3;have hvr:RepV H w (.agg cs) (a.eval x):=by
     rcases hv with⟨_,_,hq,_⟩|hv
     .cases hq
     .exact hv
    rw[RepV] at hvr;obtain⟨vs,hx,hl⟩:=hvr;have hpart:∃r,(part fd.type vs.toArray fd.offset).run P w=.ok r w/\RepV H w u r:=by
     unfold S.loadA at h5
     cases hut:P.underlying fd.type with
     | none=>simp[S.isAggA,hut] at h5
     | some dd =>
      cases hdd:dd.isRow with
      | true =>
       simp only[S.isAggA,hut,Yb8,hdd] at h5
       cases hn:S.sizeA P fd.type with
       | none=>rw[hn] at h5;cases h5
       | some n =>
        rw[hn] at h5;simp only at h5
        split at h5
        .rename_i hle
         cases h5
         obtain⟨i,hi,hin⟩:=Zcp hn;have hagg':(isAgg fd.type).run P w=.ok true w:=by
          unfold isAgg;rw[Yai,run_underlying hut w]
          cases dd <;> simp_all
         refine⟨.agg (vs.toArray.extract fd.offset (fd.offset+i.size)),by simp[part,Yai,hagg',sizeOf,typeInfo,hi],?_⟩;rw[RepV];refine⟨(vs.drop fd.offset).take n,?_,RepL.take n (RepL.drop fd.offset hl)⟩;rw[hin];simp
        .cases h5
      | false =>
       simp only[S.isAggA,hut,Yb8,hdd] at h5;obtain⟨r,hr,_,hrep⟩:=RepL.at_ hl h5;have hagg':(isAgg fd.type).run P w=.ok false w:=by
        unfold isAgg;rw[Yai,run_underlying hut w]
        cases dd <;> simp_all
       exact⟨r,by simp[part,Yai,hagg',hr],hrep⟩
    obtain⟨r,hrun,hrep⟩:=hpart;refine Zac hG h4 (.inr hrep) ?_;unfold execOp;simp only[ho,hx,Instr.field,Yai,run_underlying hu,Y4,hfd,asAgg,Yas,hrun]
   .simp[S.Rd.run] at h2
  .simp[S.Rd.run] at h2
 .simp[S.Rd.run] at h2
theorem Zj4 (hG:Gam B N w0 H0 s a w H φ){xt:TypeId}{x:Operand}{f:Nat}(ho:o.op=.fieldAddr xt x f)(he:((S.evalA x).bind λ v=>S.effFieldAddr P N o.dst xt f v).run s=some (e,l)):Zmh P B N w0 H0 o s e a w:=by
 obtain⟨v,_,_,h1,h2⟩:=Zl _ _ he;have hv:=Zr hG h1;unfold S.effFieldAddr at h2
 split at h2
 .rename_i i off
  split at h2
  .rename_i fields hu
   split at h2
   .rename_i fd hfd
    split at h2
    .rename_i n hn
     simp only[S.Rd.run] at h2;rcases hv with⟨i',off',hi,hsm,hx⟩|hv
     .cases hi
      obtain⟨en,hen⟩:=Yae.1 hsm;rw[hen] at h2
      split at h2
      .rename_i e' l' h3
       simp only[Option.some.injEq,Prod.mk.injEq] at h2;obtain⟨rfl,_⟩:=h2;obtain⟨inf,hi,hin⟩:=Zcp hn;refine Zac hG h3 (.inl ⟨i,off+fd.offset,rfl,hsm,rfl⟩) ?_;unfold execOp;simp only[ho,hx,Instr.fieldAt,Yai,run_underlying hu,Y4,hfd,Instr.sureAddr,Yas,fieldPlace,sizeOf,typeInfo,run_program,hi,hin,Addr.add_mid];simp
      .cases h2
     .rw[RepV] at hv;exact hv.elim
    .simp[S.Rd.run] at h2
   .simp[S.Rd.run] at h2
  .simp[S.Rd.run] at h2
 .simp[S.Rd.run] at h2
theorem Zw8 {k:IntKind}{n:Int}{v:Value}(h:Zw3 H w φ s (.int k n) v):v=.int k n:=by
 rcases h with⟨_,_,hq,_⟩|h
 .cases hq
 .rw[RepV] at h;exact h
theorem Zj5 (hG:Gam B N w0 H0 s a w H φ){t:TypeId}{x ix:Operand}(ho:o.op=.indexAddr t x ix)(he:((S.evalA x).bind λ v=>(S.evalA ix).bind λ u=>S.effIndexAddr P N o.dst t v u).run s=some (e,l)):Zmh P B N w0 H0 o s e a w:=by
 obtain⟨v,_,_,h1,h2⟩:=Zl _ _ he;obtain⟨u,_,_,h3,h4⟩:=Zl _ _ h2;have hv:=Zr hG h1;have hu:=Zr hG h3;unfold S.effIndexAddr at h4
 split at h4
 .rename_i e' n cs k i hut
  split at h4
  .rename_i z hz
   split at h4
   .rename_i hh
    obtain⟨hi0,hin,hlen,hzp⟩:=hh;obtain⟨inf,hinf,hins⟩:=Zcp hz;have hvr:RepV H w (.row n cs) (a.eval x):=by
     rcases hv with⟨_,_,hq,_⟩|hv
     .cases hq
     .exact hv
    rw[RepV] at hvr;obtain⟨A,c,hx,_,_,hc⟩:=hvr;have hixv:=Zw8 hu;have hne:cs≠[]:=λ e9=>by
     rw[e9] at hlen;have:0<n*z:=Nat.mul_pos (by omega) hzp;simp at hlen;omega
    rcases hc with hc|⟨b,q,h,rfl,hH,hle,hcc⟩
    .exact absurd hc hne
    .have hp:RepV H w (.ptr cs (i.toNat*z)) (.pointer (some ⟨b,q+i.toNat*z,none⟩)):=by
      rw[RepV];exact⟨b,q,h,rfl,hH,hle,hcc⟩
     refine Zac hG h4 (.inr hp) ?_
     .unfold execOp
      simp only[ho,hx,hixv,Instr.indexAt,asIntOf,Yai,run_underlying hut,Y4,Yas];rw[if_pos ⟨hi0,hin⟩];simp only[Yai,sizeOf,typeInfo,run_program,hinf,Y4,Yas,hins,Addr.add_mid]
   .simp[S.Rd.run] at h4
  .simp[S.Rd.run] at h4
 .rename_i n e' b off k i hut
  split at h4
  .rename_i z hz
   split at h4
   .rename_i hh
    obtain⟨inf,hinf,hins⟩:=Zcp hz;simp only[S.Rd.run] at h4;rcases hv with⟨i',off',hi,hsm,hx⟩|hv
    .cases hi
     obtain⟨en,hen⟩:=Yae.1 hsm;rw[hen] at h4
     split at h4
     .rename_i e2 l' h5
      simp only[Option.some.injEq,Prod.mk.injEq] at h4;obtain⟨rfl,_⟩:=h4;have hixv:=Zw8 hu;refine Zac hG h5 (.inl ⟨b,off+i.toNat*z,rfl,hsm,rfl⟩) ?_;unfold execOp;simp only[ho,hx,hixv,Instr.indexAt,asIntOf,Yai,run_underlying hut,Y4,Yas,Instr.sureAddr];rw[if_pos hh];simp only[Yai,sizeOf,typeInfo,run_program,hinf,Y4,Yas,hins,Addr.add_mid]
     .cases h4
    .rw[RepV] at hv;exact hv.elim
   .simp[S.Rd.run] at h4
  .simp[S.Rd.run] at h4
 .simp[S.Rd.run] at h4
theorem Zor (hG:GamX B N w0 H0 s a w){W:World->Prop}(hW:W w){call:FuncId->List S.AV->Option (S.AV×S.Tail)}(hcall:∀f xs r y,call f xs=some (r,y)->AFn P W f xs r y){id:Nat}
 (he:(S.effOne P N call id o).run s=some (e,l)):Zmh P B N w0 H0 o s e a w:=by
 obtain⟨H,φ,hG⟩:=hG;unfold S.effOne at he
 split at he
 .rename_i x ho;exact Zji hG (.inr ho) he
 .rename_i x ho;exact Zji hG (.inl ho) he
 .rename_i c x y ho
  obtain⟨v,_,_,h1,he⟩:=Zl _ _ he;have hv:=Zr hG h1
  split at he
  .rename_i b
   obtain⟨u,_,_,h3,h4⟩:=Zl _ _ he;have hu:=Zr hG h3;have hc:a.eval c=.bool b:=by
    rcases hv with⟨_,_,hq,_⟩|hv
    .cases hq
    .rw[RepV] at hv;exact hv
   refine Zac hG h4 hu ?_;unfold execOp
   cases b <;> simp[ho,hc,asBool]
  .simp[S.Rd.run] at he
 .rename_i t ho;exact Zsz hG ho he
 .rename_i t x ho;exact Zzg hG ho he
 .rename_i t ps ho;exact Zs0 hG ho he
 .rename_i t len ps ho;exact Zs1 hG ho he
 .rename_i t x ho;exact Zw6 hG ho he
 .rename_i t x y ho;exact Zs2 hG ho he
 .rename_i op xt x y yt ho
  obtain⟨v,_,_,h1,he⟩:=Zl _ _ he;obtain⟨u,_,_,h2,he⟩:=Zl _ _ he;obtain⟨v',_,_,h3,he⟩:=Zl _ _ he;obtain⟨u',_,_,h4,he⟩:=Zl _ _ he;have e1:=Zhy (Zr hG h1) (Zah h3);have e2:=Zhy (Zr hG h2) (Zah h4);refine Zjk hG (m:=do eqGuard op xt x y v' u';binOp op xt v' u') ?_ he;unfold execOp;simp only[ho,e1,e2]
 .rename_i op xt x ho
  obtain⟨v,_,_,h1,he⟩:=Zl _ _ he;obtain⟨v',_,_,h3,he⟩:=Zl _ _ he;have e1:=Zhy (Zr hG h1) (Zah h3);refine Zjk hG (m:=Op.unary op v') ?_ he;unfold execOp;simp only[ho,e1]
 .rename_i t t' x ho
  obtain⟨v,_,_,h1,he⟩:=Zl _ _ he;obtain⟨v',_,_,h3,he⟩:=Zl _ _ he;have e1:=Zhy (Zr hG h1) (Zah h3);refine Zjk hG (m:=convert t t' v') ?_ he;unfold execOp;simp only[ho,e1]
 .rename_i x i ho
  obtain⟨v,_,_,h1,he⟩:=Zl _ _ he;have hv:=Zr hG h1
  split at he
  .rename_i vs
   obtain⟨u,_,_,h3,h4⟩:=Zl _ _ he;have h5:=Zah h3;rcases hv with⟨_,_,hq,_⟩|hv
   .cases hq
   .rw[RepV] at hv
    obtain⟨us,hx,hT⟩:=hv;obtain⟨r,hr,hrep⟩:=RepT.at_ hT h5;refine Zac hG h4 (.inr hrep) ?_;unfold execOp;have hr':us.toArray[i]?=some r:=by simpa using hr
    simp only[ho,hx,Instr.extract,hr',Yai,Yas,Y4]
  .simp[S.Rd.run] at he
 .rename_i xt x f ho;exact Zs4 hG ho he
 .rename_i xt x f ho;exact Zj4 hG ho he
 .rename_i t x i ho;exact Zj5 hG ho he
 .rename_i c ho
  split at he
  .rename_i f hcal;exact Zw7 hG hW hcall ho hcal he
  .rename_i hcal
   split at he
   .rename_i sl x t t' hargs htys
    split at he
    .rename_i htt
     subst htt;exact Zqd hG ho hcal hargs htys he
    .simp[S.Rd.run] at he
   .simp[S.Rd.run] at he
  .rename_i hcal
   split at he
   .rename_i x t hargs htys
    split at he
    .rename_i et hut
     obtain⟨v,_,_,h1,he⟩:=Zl _ _ he;have hv:=Zr hG h1
     split at he
     .rename_i n cs
      rcases hv with⟨_,_,hq,_⟩|hv
      .cases hq
      .rw[RepV] at hv
       obtain⟨A,cp,hx,_⟩:=hv;have ha:c.args=#[x]:=by rw[<- Yby (xs:=c.args),hargs]
       have hty:c.argTypes=#[t]:=by rw[<- Yby (xs:=c.argTypes),htys]
       refine Zac hG he (u:=.int .i64 n) (.inr (by rw[RepV])) ?_;unfold execOp;simp[ho,resolve,hcal,ha,hty,invoke,builtin,hx,Builtin.len_,goInt,run_underlying hut]
     .simp[S.Rd.run] at he
    .simp[S.Rd.run] at he
   .simp[S.Rd.run] at he
  .simp[S.Rd.run] at he
 .simp[S.Rd.run] at he
theorem Zrn (hG:GamX B N w0 H0 s a w){W:World->Prop}(hW:W w){call:FuncId->List S.AV->Option (S.AV×S.Tail)}(hcall:∀f xs r y,call f xs=some (r,y)->AFn P W f xs r y){id:Nat}{ops:Array Oper}
 (he:(S.effOp P N call ops id o).run s=some (e,l)) (K:Act->World->Prop) (Q:Exit->Act->World->Prop) (hK:∀a' w',GamX B N w0 H0 (e.apply s) a' w'->K a' w') :
 (Yal o (yielded ops a.tmps)=true/\o.wp P a w K Q)\/(Yal o (yielded ops a.tmps)=false/\K (a.put o.dst undef) w):=by
 unfold S.effOp at he
 split at he
 .rename_i hg
  exact .inl ⟨by unfold Yal;rw[hg],Zor hG hW hcall he K Q hK⟩
 .rename_i j want hg
  have hwant:Yal o (yielded ops a.tmps)=(yielded ops a.tmps j==some want):=by unfold Yal;rw[hg]
  split at he
  .rename_i d hd
   obtain⟨v,l1,l2,h1,he2⟩:=Zl _ _ he;clear he
   split at he2
   .rename_i b
    have hy:yielded ops a.tmps j=some b:=by
     obtain⟨H,φ,hG⟩:=hG;have hv:a.tmps.getD d undef=.bool b:=by
      rcases Zr hG h1 with⟨_,_,hq,_⟩|hv
      .cases hq
      .rw[RepV] at hv;exact hv
     unfold S.dstOf at hd
     split at hd
     .rename_i o' ho'
      have hlt:a.tmps[d]?=some (.bool b):=by
       cases hq:a.tmps[d]? with
       | none=>rw[Ycn,hq] at hv;cases hv
       | some x=>rw[Ycn,hq] at hv;exact congrArg some hv
      unfold yielded;rw[ho'];simp only[Option.bind_some,hd,hlt]
     .cases hd
    rw[hwant,hy]
    split at he2
    .rename_i hb
     subst hb;exact .inl ⟨by simp,Zor hG hW hcall he2 K Q hK⟩
    .rename_i hb
     refine .inr ⟨by simpa using hb,hK _ _ ?_⟩;obtain⟨H,φ,hG⟩:=hG;rcases Zco he2 with⟨h4,rfl⟩|⟨d',h4,hd',rfl⟩
     .rw[h4]
      exact⟨H,φ,hG⟩
     .rw[h4]
      exact⟨H,φ,hG.value hd' (.inr (by rw[RepV];trivial))⟩
   .simp[S.Rd.run] at he2
  .simp[S.Rd.run] at he
end
end
