/- Parts. -/
import Derived.Test.YtgdjocajlndonaaGreatDoorZGStt
set_option linter.all false
open List renaming length_append->Yd,getElem?_append_left->Yn,mem_singleton->Yy
namespace Go.Proofs.YtgdjocajlndonaaGreatDoor
open Go.RowKit
theorem Zls {g:S.Gr}{a:Int}(hg:g.Ok a)(roots:List Int):∃ n l,S.Reached g roots n l:=by
 have nlt:∀ {w:Int} {i:Nat},g.node w=some i->i<g.ns.length:=fun h=>(Zev hg h).1
 have key:∀ (k:Nat) (L:List Nat),L.Nodup->(∀ i∈L,i<g.ns.length)->(∀ (j n:Nat),L[j]?=some n->(∃ r∈roots,g.node r=some n)\/∃ j' n',j'<j/\L[j']?=some n'/\∃ x∈(g.nd n').ws,g.node (g.word x)=some n)->401-L.length<=k->∃ n l,S.Reached g roots n l:=by
  intro k
  induction k with
  | zero =>
   intro L h1 h2 _ h4;have:=Zeq hg h1 h2;omega
  | succ k ih =>
   intro L h1 h2 h3 h4;have hle:=Zeq hg h1 h2;have more:∀ i:Nat,i ∉ L->i<g.ns.length->((∃ r∈roots,g.node r=some i)\/∃ j' n',j'<L.length/\L[j']?=some n'/\∃ x∈(g.nd n').ws,g.node (g.word x)=some i)->∃ n l,S.Reached g roots n l:=fun i hi hil hw=>by
    refine ih (L++[i]) ?_ ?_ ?_ ?_
    ·rw [List.nodup_append]
     refine ⟨h1,by simp,fun x hx y hy e=>?_⟩;rw [Yy] at hy;subst hy;exact hi (e ▸ hx)
    ·intro y hy
     rcases List.mem_append.1 hy with q | q
     ·exact h2 y q
     ·rw [Yy] at q
      subst q;exact hil
    ·intro j n hj
     by_cases c:j<L.length
     ·rw [Yn c] at hj
      rcases h3 j n hj with q | ⟨j',n',q1,q2,q3⟩
      ·exact .inl q
      ·exact .inr ⟨j',n',q1,by rw [Yn (by omega)];exact q2,q3⟩
     ·have hj2:j=L.length:=by
       have:=(List.getElem?_eq_some_iff.1 hj).1;rw [Yd] at this;simp at this;omega
      subst hj2;rw [List.getElem?_append_right (Nat.le_refl _)] at hj;simp at hj;subst hj;rcases hw with q | ⟨j',n',q1,q2,q3⟩
      ·exact .inl q
      ·exact .inr ⟨j',n',q1,by rw [Yn q1];exact q2,q3⟩
    ·rw [Yd]
     simp;omega
   by_cases c1:∃ r∈roots,∃ i,g.node r=some i/\i ∉ L
   ·obtain ⟨r,hr,i,hi,hn⟩:=c1
    exact more i hn (nlt hi) (.inl ⟨r,hr,hi⟩)
   ·by_cases c2:∃ n'∈L,∃ x∈(g.nd n').ws,∃ i,g.node (g.word x)=some i/\i ∉ L
    ·obtain ⟨n',hn',x,hx,i,hi,hn⟩:=c2
     obtain ⟨j',hj',e⟩:=List.getElem_of_mem hn';exact more i hn (nlt hi) (.inr ⟨j',n',hj',by rw [List.getElem?_eq_getElem hj',e],x,hx,hi⟩)
    ·refine ⟨g.total L,L,h1,h2,fun r hr i hi=>?_,fun i hi x hx j hj=>?_,h3,rfl⟩
     ·exact Classical.byContradiction fun q=>c1 ⟨r,hr,i,hi,q⟩
     ·exact Classical.byContradiction fun q=>c2 ⟨i,hi,x,hx,j,hj,q⟩
 exact key 401 [] List.nodup_nil (fun i hi=>(List.not_mem_nil hi).elim) (fun j n hj=>by simp at hj) (by simp)
end Go.Proofs.YtgdjocajlndonaaGreatDoor
