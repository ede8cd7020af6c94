/- Parts. -/
import Derived.Test.YtlldagdhlfpihaaGreatDoorZQd
import Derived.Laws.CopyRow
set_option linter.unusedVariables false
set_option linter.unusedSimpArgs false
set_option linter.unusedSectionVars false
namespace Go.Proofs.YtlldagdhlfpihaaGreatDoor
section
open Go.RowKit
def GamX (B N:Nat)(w0:World)(H0:Rowed)(s:S.St)(a:Act)(w:World):Prop:=∃ H φ,Gam B N w0 H0 s a w H φ
def Does (P:Program)(B N:Nat)(w0:World)(H0:Rowed)(o:Oper)(s:S.St)(e:S.Eff)(a:Act)(w:World):Prop :=
 ∀ K Q,(∀ a' w',GamX B N w0 H0 (e.apply s) a' w'->K a' w')->o.wp P a w K Q
section
variable {P:Program}{B N:Nat}{w0:World}{H0:Rowed}{s:S.St}{a:Act}{w:World}{H:Rowed}{φ:Nat->Nat}{o:Oper}{e:S.Eff}{l:List Nat}
theorem wp_value {K:Act->World->Prop}{Q:Exit->Act->World->Prop}{v:Value}{w':World}(hr:(execOp a.eval o).run P w=.ok (.value v) w')(h:K (a.put o.dst v) w'):o.wp P a w K Q:=by
 unfold Oper.wp
 rw [hr]
 exact h
theorem wp_skipped {K:Act->World->Prop}{Q:Exit->Act->World->Prop}{w':World}(hr:(execOp a.eval o).run P w=.ok .skip w')(h:K (a.put o.dst undef) w'):o.wp P a w K Q:=by
 unfold Oper.wp
 rw [hr]
 exact h
theorem leave_eff {v:S.AV}{y:S.Tail}{drop:Option Nat}{dst:Option Tmp}(h:(S.leave N dst v y drop).run s=some (e,l)):(dst=none/\e=⟨none,none,none⟩)\/∃ d,dst=some d/\d<N/\e=⟨some (d,v,y),drop,none⟩:=by
 unfold S.leave at h
 split at h
 ·rename_i d
  split at h
  ·rename_i hd
   simp only [S.Rd.run,Option.some.injEq,Prod.mk.injEq] at h
   exact .inr ⟨d,rfl,hd,h.1.symm⟩
  ·simp [S.Rd.run] at h
 ·simp only [S.Rd.run,Option.some.injEq,Prod.mk.injEq] at h
  exact .inl ⟨rfl,h.1.symm⟩
theorem does_value (hG:Gam B N w0 H0 s a w H φ){v:S.AV}{u:Value}(he:(S.leave N o.dst v none none).run s=some (e,l))(hx:RepS H w φ s v u)(hr:(execOp a.eval o).run P w=.ok (.value u) w):Does P B N w0 H0 o s e a w:=by
 intro K Q hK
 refine wp_value hr (hK _ _ ?_)
 rcases leave_eff he with ⟨h1,rfl⟩ | ⟨d,h1,hd,rfl⟩
 ·rw [h1]
  exact ⟨H,φ,hG⟩
 ·rw [h1]
  exact ⟨H,φ,hG.value hd hx⟩
theorem does_assign (hG:Gam B N w0 H0 s a w H φ){x:Operand}(ho:o.op=.assign x\/o.op=.move x)(he:(S.effAssign N o.dst x).run s=some (e,l)):Does P B N w0 H0 o s e a w:=by
 have hrun:(execOp a.eval o).run P w=.ok (.value (a.eval x)) w:=by
  rcases ho with ho | ho <;> (unfold execOp;simp only [ho,Sem.run_pure])
 cases x with
 | tmp t =>
  unfold S.effAssign at he
  obtain ⟨v,_,_,h1,h2⟩:=rd_bind _ _ he
  simp only [S.Rd.run] at h2
  have hs:s.sl t=some v:=by
   simp only [S.evalA,S.Rd.run] at h1
   split at h1
   ·rename_i u l' hu
    simp only [Option.some.injEq,Prod.mk.injEq] at h1
    obtain ⟨rfl,_⟩:=h1
    exact rd_ofOpt hu
   ·cases h1
  split at h2
  ·rename_i e' l' h3
   simp only [Option.some.injEq,Prod.mk.injEq] at h2
   obtain ⟨rfl,_⟩:=h2
   split at h3
   ·rename_i z htl
    intro K Q hK
    refine wp_value hrun (hK _ _ ?_)
    rcases leave_eff h3 with ⟨h4,rfl⟩ | ⟨d,h4,hd,rfl⟩
    ·rw [h4]
     exact ⟨H,φ,hG⟩
    ·rw [h4]
     refine ⟨H,φ,hG.next (.inr ⟨d,v,_,rfl,rfl,hd,?_,fun z hz=>⟨?_,fun t' g hne hdr hsm hg hg2=>?_⟩⟩) (Below.refl _ _) (Stay.refl _ _) (fun _ _=>rfl) hG.bnd (fun _ _=>rfl) hG.ent hG.inj (fun _ _ _ _ _ _=>⟨rfl,rfl⟩)⟩
     ·exact hG.slot t v hs
     ·cases hz
      obtain ⟨x',hx',hok⟩:=hG.tail t _ htl
      rw [hs] at hx'
      cases hx'
      exact hok
     ·have hne':t'≠t:=fun e=>hdr (by rw [e])
      exact hG.tinj t' t hne' hsm (by rw [htl];rfl) g hg hg2
   ·exact does_value hG h3 (hG.slot t v hs) hrun
  ·cases h2
 | const c =>
  unfold S.effAssign at he
  obtain ⟨v,_,_,h1,h2⟩:=rd_bind _ _ he
  have hc:=rd_ofOpt h1
  intro K Q hK
  refine wp_value hrun (hK _ _ ?_)
  rcases leave_eff h2 with ⟨h4,rfl⟩ | ⟨d,h4,hd,rfl⟩
  ·rw [h4]
   exact ⟨H,φ,hG⟩
  ·rw [h4]
   have hnil:∀ z,(match v with | .row _ _=>some ((0,0):TypeId×Nat) | _=>none)=some z->c=.slice none 0 0/\v=.row 0 []:=fun z hz=>by
    unfold S.constA at hc
    split at hc <;> cases hc <;> first | (simp at hz;done) | exact ⟨rfl,rfl⟩
   refine ⟨H,φ,hG.next (.inr ⟨d,v,_,rfl,rfl,hd,.inr (constA_rep hc H w).1,fun z hz=>⟨?_,fun t' g hne hdr hsm hg hg2=>?_⟩⟩) (Below.refl _ _) (Stay.refl _ _) (fun _ _=>rfl) hG.bnd (fun _ _=>rfl) hG.ent hG.inj (fun _ _ _ _ _ _=>⟨rfl,rfl⟩)⟩
   ·obtain ⟨rfl,rfl⟩:=hnil z hz
    exact ⟨0,[],rfl,.inl ⟨rfl,rfl⟩⟩
   ·obtain ⟨rfl,rfl⟩:=hnil z hz
    simp [Act.eval,Value.ownBlock] at hg2
 | func f =>
  unfold S.effAssign at he
  obtain ⟨v,_,_,h1,h2⟩:=rd_bind _ _ he
  exact does_value hG h2 (evalA_rep hG h1) hrun
 | global g =>
  unfold S.effAssign at he
  obtain ⟨v,_,_,h1,h2⟩:=rd_bind _ _ he
  exact does_value hG h2 (evalA_rep hG h1) hrun
theorem phi_lt (hG:Gam B N w0 H0 s a w H φ){i:Nat}(hi:(s.hp i).isSome=true):φ i<w.heap.size:=by
 obtain ⟨⟨t,cs⟩,h⟩:=Option.isSome_iff_exists.1 hi
 obtain ⟨_,_,vs,h1,_⟩:=hG.ent i t cs h
 exact (Array.getElem?_eq_some_iff.1 h1).1
theorem stay_below {H':Rowed}{w':World}(hG:Gam B N w0 H0 s a w H φ)(hb:Below w.heap.size w w')(hH:∀ b,b<w.heap.size->H' b=H b):Stay H w H' w':=fun b h e=>by
 have hlt:=hG.bnd b h e
 refine ⟨h,(hH b hlt).trans e,Nat.le_refl _,fun o _=>?_⟩
 exact hb.cell (p:=⟨b,o,none⟩) hlt
theorem does_fresh (hG:Gam B N w0 H0 s a w H φ){id:Nat}{t:TypeId}{cs:List S.AV}{vs:List Value}(he:(S.fresh N o.dst id t cs).run s=some (e,l))(hx:RepL H w cs vs)
 (hr:(execOp a.eval o).run P w=.ok (.value (.pointer (some ⟨w.heap.size,0,none⟩))) (w.alloc (.cells vs.toArray t (0,0)))):Does P B N w0 H0 o s e a w:=by
 unfold S.fresh at he
 split at he
 ·rename_i d hdst
  split at he
  ·rename_i hd
   simp only [S.Rd.run] at he
   split at he
   ·rename_i e' l' h1
    split at h1
    ·rename_i hnone
     simp only [S.Rd.run,Option.some.injEq,Prod.mk.injEq] at h1 he
     obtain ⟨rfl,_⟩:=h1
     obtain ⟨rfl,_⟩:=he
     intro K Q hK
     refine wp_value hr (hK _ _ ?_)
     have hb:Below w.heap.size w (w.alloc (.cells vs.toArray t (0,0))):=(Below.refl _ _).alloc (Nat.le_refl _) _
     have hst:Stay H w H (w.alloc (.cells vs.toArray t (0,0))):=stay_below hG hb fun _ _=>rfl
     have hsz:(w.alloc (.cells vs.toArray t (0,0))).heap.size=w.heap.size+1:=by show (w.heap.push _).size=_;simp
     have hnew:=heap_alloc_new w (.cells vs.toArray t (0,0))
     rw [hdst]
     refine ⟨H,fun i=>if i=id then w.heap.size else φ i,hG.next (.inr ⟨d,_,_,rfl,rfl,hd,.inl ⟨id,0,rfl,?_,?_⟩,fun z hz=>by cases hz⟩) (hb.mono hG.base) hst (fun _ _=>rfl) (fun b n h=>?_) (fun i hi=>?_) (fun i t' cs' hi=>?_) (fun i j hi hj hij=>?_) (fun t' g _ _ hsm hg=>⟨?_,rfl⟩)⟩
     ·unfold S.Eff.apply;simp
     ·simp
     ·have:=hG.bnd b n h
      omega
     ·have hne:i≠id:=fun e=>by rw [e,hnone] at hi;cases hi
      simp only [if_neg hne]
     ·unfold S.Eff.apply at hi
      simp only at hi
      by_cases c:i=id
      ·rw [if_pos c] at hi
       cases hi
       simp only [if_pos c]
       refine ⟨hG.base,?_,vs,hnew,RepL.stay hst cs vs hx⟩
       cases hH:H w.heap.size with
       | none=>rfl
       | some n=>have:=hG.bnd _ n hH;omega
      ·rw [if_neg c] at hi
       simp only [if_neg c]
       obtain ⟨h2,h3,vs',h4,h5⟩:=hG.ent i t' cs' hi
       exact ⟨h2,h3,vs',(hb.block _ (phi_lt hG (by rw [hi];rfl))).trans h4,RepL.stay hst cs' vs' h5⟩
     ·have hlive:∀ i,i≠id->(((⟨some (d,.box id 0,none),none,some (id,(t,cs))⟩:S.Eff).apply s).hp i).isSome=true->(s.hp i).isSome=true:=fun i hne hi=>by
       unfold S.Eff.apply at hi
       simp only [if_neg hne] at hi
       exact hi
      have hij:(if i=id then w.heap.size else φ i)=(if j=id then w.heap.size else φ j):=hij
      by_cases ci:i=id
      ·by_cases cj:j=id
       ·rw [ci,cj]
       ·rw [if_pos ci,if_neg cj] at hij
        have:=phi_lt hG (hlive j cj hj)
        omega
      ·by_cases cj:j=id
       ·rw [if_neg ci,if_pos cj] at hij
        have:=phi_lt hG (hlive i ci hi)
        omega
       ·rw [if_neg ci,if_neg cj] at hij
        exact hG.inj i j (hlive i ci hi) (hlive j cj hj) hij
     ·obtain ⟨z,hz⟩:=Option.isSome_iff_exists.1 hsm
      obtain ⟨x,_,hok⟩:=hG.tail t' z hz
      obtain ⟨⟨n,hn⟩,_⟩:=hok.own hg
      exact hb.block g (hG.bnd g n hn)
    ·simp [S.Rd.run] at h1
   ·cases he
  ·simp [S.Rd.run] at he
 ·simp [S.Rd.run] at he
theorem zero_rep {t:TypeId}{cs:List S.AV}(h:S.zeroA P t=some cs):∃ i z,P.info? t=some i/\i.zero=some z/\S.constsA z.cells.toList=some cs:=by
 unfold S.zeroA at h
 split at h
 ·rename_i i hi
  split at h
  ·rename_i z hz
   exact ⟨i,z,hi,hz,h⟩
  ·cases h
 ·cases h
theorem does_alloc (hG:Gam B N w0 H0 s a w H φ){id:Nat}{t:TypeId}(ho:o.op=.alloc t)(he:(match S.zeroA P t with | some cs=>S.fresh N o.dst id t cs | none=>.fail).run s=some (e,l)):Does P B N w0 H0 o s e a w:=by
 split at he
 ·rename_i cs hcs
  obtain ⟨i,z,hi,hz,hc⟩:=zero_rep hcs
  refine does_fresh hG he (constsA_rep hc H w) ?_
  unfold execOp
  simp only [ho,Instr.alloc,zeroValue,typeInfo,Sem.run_bind,run_program,Result.andThen_ok,hi,hz,Sem.run_pure,newVar,newRow,run_newObj]
  rfl
 ·simp [S.Rd.run] at he
theorem does_box (hG:Gam B N w0 H0 s a w H φ){id:Nat}{t:TypeId}{x:Operand}(ho:o.op=.box t x)(he:((S.evalA x).bind fun v=>(S.Rd.ofOpt v.cells).bind fun cs=>S.fresh N o.dst id t cs).run s=some (e,l)):Does P B N w0 H0 o s e a w:=by
 obtain ⟨v,_,_,h1,h2⟩:=rd_bind _ _ he
 obtain ⟨cs,_,_,h3,h4⟩:=rd_bind _ _ h2
 have hc:=rd_ofOpt h3
 obtain ⟨vs,e1,h5⟩:=rep_cells (cells_rep (evalA_rep hG h1) hc) hc
 refine does_fresh hG h4 h5 ?_
 unfold execOp
 simp only [ho,Instr.box,newVar,newRow,Sem.run_bind,run_newObj,Result.andThen_ok,Sem.run_pure,e1]
 rfl
theorem partsA_map {ps:Array (Nat×Operand)}:(ps.map fun (i,x)=>(i,a.eval x)).toList=ps.toList.map fun p=>(p.1,a.eval p.2):=by simp
theorem places_eq:∀ {fs:List Field} {places:List (Nat×Nat)},S.placesA P fs=some places->fs.mapM (fun f=>(P.info? f.type).map fun i=>(f.offset,i.size))=some places
 | [],places,h=>by simp [S.placesA] at h;subst h;rfl
 | f::r,places,h=>by
  unfold S.placesA at h
  split at h
  ·rename_i i l h1 h2
   cases h
   rw [List.mapM_cons,h1]
   simp [places_eq h2]
  ·cases h
theorem does_build (hG:Gam B N w0 H0 s a w H φ){t:TypeId}{ps:Array (Nat×Operand)}(ho:o.op=.build t ps)(he:((S.partsA ps.toList).bind fun vs=>S.effBuild P N o.dst t vs).run s=some (e,l)):Does P B N w0 H0 o s e a w:=by
 obtain ⟨vs,_,_,h1,h2⟩:=rd_bind _ _ he
 have hp:=partsA_rep hG h1
 rw [<- partsA_map] at hp
 have fin:∀ (place:Nat->Option (Nat×Nat)) (z:Value) (cs0:List S.AV) (l:List Nat),S.constsA z.cells.toList=some cs0->((S.Rd.ofOpt (S.fillA place cs0 vs)).bind fun cs=>S.leave N o.dst (.agg cs) none none).run s=some (e,l) ->
  (∀ cells,Instr.fill place z.cells ((ps.map fun (i,x)=>(i,a.eval x)).toList)=some cells->P.built t ((ps.map fun (i,x)=>(i,a.eval x)).toList)=some cells)->Does P B N w0 H0 o s e a w:=fun place z cs0 l hz h hb=>by
  obtain ⟨cs,_,_,h3,h4⟩:=rd_bind _ _ h
  obtain ⟨r,hr,hrep⟩:=fill_rep hp (constsA_rep hz H w) (rd_ofOpt h3)
  refine does_value hG h4 (u:=.agg r) (.inr ?_) ?_
  ·rw [RepV]
   exact ⟨r.toList,by simp,hrep⟩
  ·unfold execOp
   simp only [ho,Sem.run_bind,run_build w t _ r (hb r hr),Result.andThen_ok,Sem.run_pure]
 unfold S.effBuild at h2
 split at h2
 ·rename_i cs0 fields hz hu
  obtain ⟨i,z,hi,hzz,hc⟩:=zero_rep hz
  split at h2
  ·rename_i places hpl
   refine fin _ z cs0 _ hc h2 fun cells hf=>?_
   unfold Program.built
   simp only [hi,hu,hzz,places_eq hpl]
   exact hf
  ·simp [S.Rd.run] at h2
 ·rename_i cs0 n e' hz hu
  obtain ⟨i,z,hi,hzz,hc⟩:=zero_rep hz
  split at h2
  ·rename_i k hk
   refine fin _ z cs0 _ hc h2 fun cells hf=>?_
   unfold S.sizeA at hk
   cases hie:P.info? e' with
   | none=>rw [hie] at hk;cases hk
   | some ie =>
    rw [hie] at hk
    simp at hk
    subst hk
    unfold Program.built
    simp only [hi,hu,hzz,hie]
    exact hf
  ·simp [S.Rd.run] at h2
 ·simp [S.Rd.run] at h2
end
end
section
open Go.RowKit
section
variable {P:Program}{B N:Nat}{w0:World}{H0:Rowed}{s:S.St}{a:Act}{w:World}{H:Rowed}{φ:Nat->Nat}{o:Oper}{e:S.Eff}{l:List Nat}
theorem range_times (z:Array Value)(hz:0<z.size):∀ n:Nat,((Array.range (n*z.size)).map (z[·%z.size]!)).toList=(List.replicate n z.toList).flatten
 | 0=>by simp
 | n+1=>by
  have ih:=range_times z hz n
  rw [Array.toList_map,Array.toList_range] at ih ⊢
  rw [List.replicate_succ',List.flatten_append,<- ih,Nat.add_mul,Nat.one_mul,List.range_add,List.map_append]
  congr 1
  rw [List.map_map]
  apply List.ext_getElem
  ·simp
  ·intro i h1 h2
   simp only [List.length_map,List.length_range] at h1
   have e1:(n*z.size+i)%z.size=i:=by
    rw [Nat.mul_comm,Nat.mul_add_mod,Nat.mod_eq_of_lt h1]
   simp [e1,h1]
theorem times_rep {z:List S.AV}{vz:List Value}(h:RepL H w z vz):∀ n:Nat,RepL H w (S.timesA z n) ((List.replicate n vz).flatten)
 | 0=>by rw [S.timesA,RepL];rfl
 | n+1=>by
  rw [S.timesA,List.replicate_succ,List.flatten_cons]
  exact RepL.append h (times_rep h n)
theorem timesA_length (z:List S.AV):∀ n:Nat,(S.timesA z n).length=n*z.length
 | 0=>by rw [S.timesA];simp
 | n+1=>by rw [S.timesA,List.length_append,timesA_length z n,Nat.add_mul];omega
theorem fillA_length {place:Nat->Option (Nat×Nat)}:∀ {ps:List (Nat×List S.AV)} {cs out:List S.AV},S.fillA place cs ps=some out->out.length=cs.length
 | [],cs,out,h=>by simp [S.fillA] at h;subst h;rfl
 | (i,v)::r,cs,out,h=>by
  unfold S.fillA at h
  split at h
  ·cases h
  ·split at h
   ·rename_i hh
    rw [fillA_length h]
    simp only [List.length_append,List.length_take,List.length_drop]
    omega
   ·cases h
theorem size_info {t:TypeId}{n:Nat}(h:S.sizeA P t=some n):∃ i,P.info? t=some i/\i.size=n:=by
 unfold S.sizeA at h
 cases hi:P.info? t with
 | none=>rw [hi] at h;cases h
 | some i=>rw [hi] at h;exact ⟨i,rfl,by simpa using h⟩
theorem gam_row (hG:Gam B N w0 H0 s a w H φ){d:Nat}(hd:d<N){n z:Nat}{cs:List S.AV}{cur:Array Value}{t:TypeId}{c:Nat}{w':World}{drop:Option Nat}
 (hw:w'=w.alloc (.cells cur t (0,0))\/w'=w.drew.alloc (.cells cur t (0,0))) {xs:List Value} (hx:RepL H w cs xs) (hcur:cur.toList.take cs.length=xs)
 (hn:n<=c) (hc:c<=maxLen) (hsz:cur.size=c*z) (hlen:cs.length=n*z) (hz:0<z) :
 GamX B N w0 H0 ((⟨some (d,.row n cs,some (t,z)),drop,none⟩:S.Eff).apply s) (a.put (some d) (.slice (some ⟨w.heap.size,0,none⟩) n c)) w':=by
 have hb:Below w.heap.size w w':=by
  rcases hw with rfl | rfl
  ·exact (Below.refl _ _).alloc (Nat.le_refl _) _
  ·exact ⟨rfl,rfl,rfl,by show w.heap.size<=(w.heap.push _).size;simp,fun k hk=>heap_alloc_old w.drew _ hk⟩
 have hsize:w'.heap.size=w.heap.size+1:=by
  rcases hw with rfl | rfl <;> (show (w.heap.push _).size=_;simp)
 have hnew:w'.heap[w.heap.size]?=some (.cells cur t (0,0)):=by
  rcases hw with rfl | rfl
  ·exact heap_alloc_new w _
  ·exact heap_alloc_new w.drew _
 obtain ⟨H',hH'⟩:∃ H':Rowed,H'=fun b=>if b=w.heap.size then some cs.length else H b:=⟨_,rfl⟩
 have h1:H' w.heap.size=some cs.length:=by rw [hH'];simp
 have h2:∀ b,b≠w.heap.size->H' b=H b:=fun b hb=>by rw [hH'];simp [hb]
 have hst:Stay H w H' w':=stay_below hG hb fun b hb=>h2 b (by omega)
 have hrange:w'.rangeAt w.heap.size 0 xs:=fun j v hj=>by
  rw [Lib.cell_of_heap hnew,Nat.zero_add]
  have hj2:j<cs.length:=by rw [<- RepL.length hx];exact (List.getElem?_eq_some_iff.1 hj).1
  rw [<- hcur,List.getElem?_take,if_pos hj2] at hj
  simpa using hj
 have hrep:RepC H' w' cs w.heap.size 0:=repC_of (RepL.stay hst cs xs hx) hrange
 refine ⟨H',φ,hG.next (.inr ⟨d,_,_,rfl,rfl,hd,.inr ?_,fun y hy=>⟨?_,fun t' g hne hdr hsm hg hg2=>?_⟩⟩) (hb.mono hG.base) hst (fun b hb'=>h2 b (by have:=hG.base;omega)) (fun b k hk=>?_) (fun _ _=>rfl) (fun i t' cs' hi=>?_) hG.inj (fun t' g _ _ hsm hg=>?_)⟩
 ·rw [RepV]
  refine ⟨_,c,rfl,fun h0=>List.eq_nil_of_length_eq_zero (by rw [hlen,h0];simp),fun h0=>(by cases h0),.inr ⟨_,0,_,rfl,h1,by omega,hrep⟩⟩
 ·cases hy
  exact ⟨n,cs,rfl,.inr ⟨_,c,cur,rfl,hG.base,h1,hnew,hn,hc,hsz,hlen,hz⟩⟩
 ·simp only [Value.ownBlock,Option.some.injEq] at hg2
  obtain ⟨y',hy'⟩:=Option.isSome_iff_exists.1 hsm
  obtain ⟨x,_,hok⟩:=hG.tail t' y' hy'
  obtain ⟨⟨k,hk⟩,_⟩:=hok.own hg
  have:=hG.bnd g k hk
  omega
 ·by_cases hbe:b=w.heap.size
  ·omega
  ·rw [h2 b hbe] at hk
   have:=hG.bnd b k hk
   omega
 ·have hi':s.hp i=some (t',cs'):=hi
  obtain ⟨h3,h4,vs',h5,h6⟩:=hG.ent i t' cs' hi'
  have hlt:=phi_lt hG (i:=i) (by rw [hi'];rfl)
  exact ⟨h3,(h2 _ (by omega)).trans h4,vs',(hb.block _ hlt).trans h5,RepL.stay hst cs' vs' h6⟩
 ·obtain ⟨y',hy'⟩:=Option.isSome_iff_exists.1 hsm
  obtain ⟨x,_,hok⟩:=hG.tail t' y' hy'
  obtain ⟨⟨k,hk⟩,_⟩:=hok.own hg
  have:=hG.bnd g k hk
  exact ⟨hb.block g this,h2 g (by omega)⟩
theorem does_slice (hG:Gam B N w0 H0 s a w H φ){t:TypeId}{len:Nat}{ps:Array (Nat×Operand)}(ho:o.op=.buildSlice t len ps)(he:((S.partsA ps.toList).bind fun vs=>S.effSlice P N o.dst t len vs).run s=some (e,l)):Does P B N w0 H0 o s e a w:=by
 obtain ⟨vs,_,_,h1,h2⟩:=rd_bind _ _ he
 have hp:=partsA_rep hG h1
 rw [<- partsA_map] at hp
 unfold S.effSlice at h2
 split at h2
 ·rename_i e' hu
  split at h2
  ·rename_i z n hz hn
   split at h2
   ·rename_i hh
    obtain ⟨hzl,hn0,hl0,hbig⟩:=hh
    obtain ⟨cs,_,_,h3,h4⟩:=rd_bind _ _ h2
    obtain ⟨i,zv,hi,hzz,hc⟩:=zero_rep hz
    obtain ⟨i',hi',hin⟩:=size_info hn
    rw [hi] at hi'
    cases hi'
    subst hin
    have hcr:=constsA_rep hc H w
    have hzsz:zv.cells.size=i.size:=by rw [<- hzl,<- RepL.length hcr];simp
    have hrep0:RepL H w (S.timesA z len) ((Array.range (len*i.size)).map (zv.cells[·%zv.cells.size]!)).toList:=by
     rw [<- hzsz,range_times _ (by omega)]
     exact times_rep hcr len
    have hf:=rd_ofOpt h3
    obtain ⟨r,hr,hrr⟩:=fill_rep hp hrep0 hf
    have hlen:cs.length=len*i.size:=by rw [fillA_length hf,timesA_length,hzl]
    have hpos:0<len*i.size:=Nat.mul_pos hl0 hn0
    have hrun:(execOp a.eval o).run P w=.ok (.value (.slice (some ⟨w.heap.size,0,none⟩) len len)) (w.alloc (.cells r e')):=by
     unfold execOp
     simp only [ho,Sem.run_bind,run_buildSlice w t e' len _ r i zv hu hi hzz (by omega) (by omega) hr,Result.andThen_ok,Sem.run_pure]
    intro K Q hK
    refine wp_value hrun (hK _ _ ?_)
    rcases leave_eff h4 with ⟨h5,rfl⟩ | ⟨d,h5,hd,rfl⟩
    ·rw [h5]
     have hb:Below w.heap.size w (w.alloc (.cells r e')):=(Below.refl _ _).alloc (Nat.le_refl _) _
     exact ⟨H,φ,hG.next (.inl ⟨rfl,rfl⟩) (hb.mono hG.base) (stay_below hG hb fun _ _=>rfl) (fun _ _=>rfl) (fun b k hk=>Nat.lt_of_lt_of_le (hG.bnd b k hk) hb.size) (fun _ _=>rfl)
      (fun i t' cs' hi=>by
       have hi':s.hp i=some (t',cs'):=hi
       obtain ⟨h3,h4,vs',h5,h6⟩:=hG.ent i t' cs' hi'
       exact ⟨h3,h4,vs',(hb.block _ (phi_lt hG (by rw [hi'];rfl))).trans h5,RepL.stay (stay_below hG hb fun _ _=>rfl) cs' vs' h6⟩) hG.inj
      (fun t' g _ _ hsm hg=>by
       obtain ⟨y',hy'⟩:=Option.isSome_iff_exists.1 hsm
       obtain ⟨x,_,hok⟩:=hG.tail t' y' hy'
       obtain ⟨⟨k,hk⟩,_⟩:=hok.own hg
       exact ⟨hb.block g (hG.bnd g k hk),rfl⟩)⟩
    ·rw [h5]
     have hrs:r.size=len*i.size:=by
      have:=RepL.length hrr
      simp only [Array.length_toList] at this
      rw [this,hlen]
     refine gam_row hG hd (.inl rfl) hrr ?_ (Nat.le_refl _) (by simp only [maxLen];have:len<=len*i.size:=Nat.le_mul_of_pos_right _ hn0;omega) hrs hlen hn0
     rw [List.take_of_length_le (by simp [hrs,hlen])]
   ·simp [S.Rd.run] at h2
  ·simp [S.Rd.run] at h2
 ·simp [S.Rd.run] at h2
theorem load_run {t:TypeId}{b off q:Nat}{cs:List S.AV}{vs:List Value}{v:S.AV}(hr:w.rangeAt b q vs)(hx:RepL H w cs vs)(h:S.loadA P t cs off=some v) :
 ∃ u,(Instr.loadAt t (.pointer (some ⟨b,q+off,none⟩))).run P w=.ok u w/\RepV H w v u:=by
 unfold S.loadA at h
 cases hu:P.underlying t with
 | none=>simp [S.isAggA,hu] at h
 | some d =>
  cases hd:d.isRow with
  | true =>
   simp only [S.isAggA,hu,Option.map_some,hd] at h
   cases hn:S.sizeA P t with
   | none=>rw [hn] at h;cases h
   | some n =>
    rw [hn] at h
    simp only at h
    split at h
    ·rename_i hle
     cases h
     obtain ⟨i,hi,hin⟩:=size_info hn
     have hl:=RepL.length hx
     refine ⟨.agg ((vs.drop off).take n).toArray,run_loadAt_mid w b (q+off) t ((vs.drop off).take n) d (fun j u hj=>?_) hu hd ?_,?_⟩
     ·rw [List.getElem?_take] at hj
      split at hj
      ·rw [List.getElem?_drop] at hj
       have:=hr (off+j) u hj
       rw [<- Nat.add_assoc] at this
       exact this
      ·cases hj
     ·rw [hi]
      simp only [Option.map_some,hin,List.length_take,List.length_drop]
      congr 1
      omega
     ·rw [RepV]
      exact ⟨_,rfl,RepL.take n (RepL.drop off hx)⟩
    ·cases h
  | false =>
   simp only [S.isAggA,hu,Option.map_some,hd] at h
   obtain ⟨u,hu2,_,hv⟩:=RepL.at_ hx h
   refine ⟨u,?_,hv⟩
   have hagg':(isAgg t).run P w=.ok false w:=by
    unfold isAgg
    rw [Sem.run_bind,run_underlying hu w]
    cases d <;> simp_all
   have hc:=hr off u hu2
   simp only [Instr.loadAt,Instr.sureAddr,Sem.run_bind,Sem.run_pure,Result.andThen_ok,loadVar,hagg',Bool.false_eq_true,if_false,run_load,hc]
theorem rangeAt_heap {b:Nat}{vs:List Value}{t:TypeId}{fr:Nat×Nat}(h:w.heap[b]?=some (.cells vs.toArray t fr)):w.rangeAt b 0 vs:=fun j v hj=>by
 rw [Lib.cell_of_heap h,Nat.zero_add]
 simpa using hj
theorem does_load (hG:Gam B N w0 H0 s a w H φ){t:TypeId}{x:Operand}(ho:o.op=.load t x)(he:((S.evalA x).bind fun v=>S.effLoad P N o.dst t v).run s=some (e,l)):Does P B N w0 H0 o s e a w:=by
 obtain ⟨v,_,_,h1,h2⟩:=rd_bind _ _ he
 have hv:=evalA_rep hG h1
 have fin:∀ (b off q:Nat) (cs:List S.AV) (vs:List Value) (l:List Nat),a.eval x=.pointer (some ⟨b,q+off,none⟩)->w.rangeAt b q vs->RepL H w cs vs->((S.Rd.ofOpt (S.loadA P t cs off)).bind fun v=>S.leave N o.dst v none none).run s=some (e,l)->Does P B N w0 H0 o s e a w:=fun b off q cs vs l hx hr hl h=>by
  obtain ⟨u,_,_,h3,h4⟩:=rd_bind _ _ h
  obtain ⟨r,hrun,hrep⟩:=load_run hr hl (rd_ofOpt h3)
  refine does_value hG h4 (.inr hrep) ?_
  unfold execOp
  simp only [ho,hx,Sem.run_bind,hrun,Result.andThen_ok,Sem.run_pure]
 unfold S.effLoad at h2
 split at h2
 ·rename_i i off
  simp only [S.Rd.run] at h2
  rcases hv with ⟨i',off',hi,hsm,hx⟩ | hv
  ·cases hi
   obtain ⟨⟨t',cs⟩,hcs⟩:=Option.isSome_iff_exists.1 hsm
   rw [hcs] at h2
   split at h2
   ·rename_i e' l' h3
    simp only [Option.some.injEq,Prod.mk.injEq] at h2
    obtain ⟨rfl,_⟩:=h2
    obtain ⟨_,_,vs,h4,h5⟩:=hG.ent i t' cs hcs
    exact fin (φ i) off 0 cs vs _ (by rw [Nat.zero_add];exact hx) (rangeAt_heap h4) h5 h3
   ·cases h2
  ·rw [RepV] at hv
   exact hv.elim
 ·rename_i cs off
  rcases hv with ⟨i',off',hi,_⟩ | hv
  ·cases hi
  ·rw [RepV] at hv
   obtain ⟨b,q,k,hx,_,_,hc⟩:=hv
   obtain ⟨vs,h3,h4⟩:=repC_list hc
   exact fin b off q cs vs _ hx h4 h3 h2
 ·simp [S.Rd.run] at h2
theorem does_store (hG:Gam B N w0 H0 s a w H φ){t:TypeId}{x y:Operand}(ho:o.op=.store t x y)(he:((S.evalA x).bind fun v=>(S.evalA y).bind fun u=>(S.Rd.ofOpt u.cells).bind fun cs=>S.effStore P o.dst t cs v).run s=some (e,l)):Does P B N w0 H0 o s e a w:=by
 obtain ⟨v,_,_,h1,h2⟩:=rd_bind _ _ he
 obtain ⟨u,_,_,h3,h4⟩:=rd_bind _ _ h2
 obtain ⟨ds,_,_,h5,h6⟩:=rd_bind _ _ h4
 have hv:=evalA_rep hG h1
 have hc:=rd_ofOpt h5
 obtain ⟨us,eus,hus⟩:=rep_cells (cells_rep (evalA_rep hG h3) hc) hc
 unfold S.effStore at h6
 split at h6
 ·rename_i i off
  simp only [S.Rd.run] at h6
  rcases hv with ⟨i',off',hi,hsm,hx⟩ | hv
  ·cases hi
   obtain ⟨⟨t',cs⟩,hcs⟩:=Option.isSome_iff_exists.1 hsm
   rw [hcs] at h6
   split at h6
   ·rename_i e' l' h7
    simp only [Option.some.injEq,Prod.mk.injEq] at h6
    obtain ⟨rfl,_⟩:=h6
    simp only at h7
    split at h7
    ·rename_i hh
     obtain ⟨hdst,hsz,hle⟩:=hh
     simp only [S.Rd.run,Option.some.injEq,Prod.mk.injEq] at h7
     obtain ⟨rfl,_⟩:=h7
     obtain ⟨hB,hHn,vs,h8,h9⟩:=hG.ent i t' cs hcs
     have hlv:=RepL.length h9
     have hlu:=RepL.length hus
     obtain ⟨inf,hi,hin⟩:=size_info hsz
     have hst:=run_storeCells_at P (φ i) off t' us 0 vs.toArray w h8 (by simp;omega) (RepL.one hus)
     simp only [Nat.add_zero] at hst
     have hrun:(execOp a.eval o).run P w=.ok .skip (w.setRow (φ i) (vs.take off++us++vs.drop (off+us.length)).toArray):=by
      unfold execOp
      simp only [ho,hx,Instr.storeAt,Instr.sureAddr,Sem.run_bind,Sem.run_pure,Result.andThen_ok,storeVar,sizeOf,typeInfo,run_program,hi]
      rw [eus]
      simp only [hin,List.size_toArray,hlu,ne_eq,not_true_eq_false,if_false,hst,Result.andThen_ok]
     have hother:∀ k,k≠φ i->(w.setRow (φ i) (vs.take off++us++vs.drop (off+us.length)).toArray).heap[k]?=w.heap[k]?:=fun k hk=>setRow_other w _ k _ hk
     have hself:=setRow_heap w (φ i) vs.toArray (vs.take off++us++vs.drop (off+us.length)).toArray t' (0,0) h8
     have hsize:(w.setRow (φ i) (vs.take off++us++vs.drop (off+us.length)).toArray).heap.size=w.heap.size:=by simp [World.setRow]
     have hb:Below B w (w.setRow (φ i) (vs.take off++us++vs.drop (off+us.length)).toArray):=⟨rfl,rfl,rfl,by rw [hsize];exact Nat.le_refl _,fun k hk=>hother k (by omega)⟩
     have hst2:Stay H w H (w.setRow (φ i) (vs.take off++us++vs.drop (off+us.length)).toArray):=fun b k hb=>⟨k,hb,Nat.le_refl _,fun q _=>World.cell?_of_block (hother b (fun e=>by rw [e,hHn] at hb;cases hb))⟩
     intro K Q hK
     refine wp_skipped hrun (hK _ _ ?_)
     rw [hdst]
     refine ⟨H,φ,hG.next (.inl ⟨rfl,rfl⟩) hb hst2 (fun _ _=>rfl) (fun b k hk=>by rw [hsize];exact hG.bnd b k hk) (fun _ _=>rfl) (fun j t2 cs2 hj=>?_) (fun j j' hj hj' hjj=>?_) (fun t2 g _ _ hsm2 hg=>?_)⟩
     ·unfold S.Eff.apply at hj
      simp only at hj
      by_cases c:j=i
      ·subst c
       rw [if_pos rfl] at hj
       cases hj
       refine ⟨hB,hHn,_,hself,?_⟩
       have:=RepL.append (RepL.append (RepL.take off h9) hus) (RepL.drop (off+ds.length) h9)
       rw [<- hlu] at this ⊢
       exact RepL.stay hst2 _ _ this
      ·rw [if_neg c] at hj
       obtain ⟨q1,q2,vs2,q3,q4⟩:=hG.ent j t2 cs2 hj
       refine ⟨q1,q2,vs2,(hother _ fun e=>c (hG.inj j i (by rw [hj];rfl) hsm e)).trans q3,RepL.stay hst2 _ _ q4⟩
     ·have hlive:∀ j,(((⟨none,none,some (i,(t',cs.take off++ds++cs.drop (off+ds.length)))⟩:S.Eff).apply s).hp j).isSome=true->(s.hp j).isSome=true:=fun j hj=>by
       unfold S.Eff.apply at hj
       simp only at hj
       by_cases c:j=i
       ·rw [c];exact hsm
       ·rw [if_neg c] at hj;exact hj
      exact hG.inj j j' (hlive j hj) (hlive j' hj') hjj
     ·obtain ⟨y',hy'⟩:=Option.isSome_iff_exists.1 hsm2
      obtain ⟨x2,_,hok⟩:=hG.tail t2 y' hy'
      obtain ⟨⟨k,hk⟩,_⟩:=hok.own hg
      exact ⟨hother g (fun e=>by rw [e,hHn] at hk;cases hk),rfl⟩
    ·simp [S.Rd.run] at h7
   ·cases h6
  ·rw [RepV] at hv
   exact hv.elim
 ·simp [S.Rd.run] at h6
end
end
end Go.Proofs.YtlldagdhlfpihaaGreatDoor
