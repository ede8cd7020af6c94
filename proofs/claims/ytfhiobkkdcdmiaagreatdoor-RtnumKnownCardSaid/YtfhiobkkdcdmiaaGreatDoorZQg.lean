/- Parts. -/
import Derived.Test.YtfhiobkkdcdmiaaGreatDoorZQd
import Derived.Laws.CopyRow
set_option linter.all false
open Nat renaming le_refl->Yb,zero_add->Yaa,add_zero->Ybe,add_mul->Ycg
open Go.Lib renaming cell_of_heap->Yc
open List renaming length_append->Yd,getElem?_eq_some_iff->Yg,append_assoc->Ym,length_take->Yq,replicate->Yu,eq_nil_of_length_eq_zero->Y0,getElem?_take->Ybg,ext_getElem->Yb5,size_toArray->Yc0
open Go.RowKit.Below renaming refl->Yh
open Array renaming getElem?_eq_some_iff->Yv,length_toList->Ybn,toArray_toList->Ybx,getD_eq_getD_getElem?->Ycl
open Go.Result renaming andThen_ok->Y3
open Option renaming isSome_iff_exists->Yac,map_some->Ycc
open Go.Sem renaming run_bind->Yag,run_pure->Yat
open Go.Region renaming wanted->Yak
open Go.Value renaming ownBlock->Yam
namespace Go.Proofs.YtfhiobkkdcdmiaaGreatDoor
section
open Go.RowKit
def GamX (B N:Nat)(w0:World)(H0:Zu)(s:S.St)(a:Act)(w:World):Prop:=∃ H φ,Gam B N w0 H0 s a w H φ
def Zmr (P:Program)(B N:Nat)(w0:World)(H0:Zu)(o:Oper)(s:S.St)(e:S.Eff)(a:Act)(w:World):Prop :=
 ∀ K Q,(∀ a' w',GamX B N w0 H0 (e.apply s) a' w'->K a' w')->o.wp P a w K Q
section
variable {P:Program}{B N:Nat}{w0:World}{H0:Zu}{s:S.St}{a:Act}{w:World}{H:Zu}{φ:Nat->Nat}{o:Oper}{e:S.Eff}{l:List Nat}
theorem Ze4 {K:Act->World->Prop}{Q:Exit->Act->World->Prop}{v:Value}{w':World}(hr:(execOp a.eval o).run P w=.ok (.value v) w')(h:K (a.put o.dst v) w'):o.wp P a w K Q:=by
 unfold Oper.wp;rw [hr];exact h
theorem Zs1 {K:Act->World->Prop}{Q:Exit->Act->World->Prop}{w':World}(hr:(execOp a.eval o).run P w=.ok .skip w')(h:K (a.put o.dst undef) w'):o.wp P a w K Q:=by
 unfold Oper.wp;rw [hr];exact h
theorem Zcr {v:S.AV}{y:S.Tail}{drop:Option Nat}{dst:Option Tmp}(h:(S.leave N dst v y drop).run s=some (e,l)):(dst=none/\e=⟨none,none,none⟩)\/∃ d,dst=some d/\d<N/\e=⟨some (d,v,y),drop,none⟩:=by
 unfold S.leave at h
 split at h
 ·rename_i d
  split at h
  ·rename_i hd
   simp only [S.Rd.run,Option.some.injEq,Prod.mk.injEq] at h;exact .inr ⟨d,rfl,hd,h.1.symm⟩
  ·simp [S.Rd.run] at h
 ·simp only [S.Rd.run,Option.some.injEq,Prod.mk.injEq] at h
  exact .inl ⟨rfl,h.1.symm⟩
theorem Zad (hG:Gam B N w0 H0 s a w H φ){v:S.AV}{u:Value}(he:(S.leave N o.dst v none none).run s=some (e,l))(hx:Zwy H w φ s v u)(hr:(execOp a.eval o).run P w=.ok (.value u) w):Zmr P B N w0 H0 o s e a w:=by
 intro K Q hK;refine Ze4 hr (hK _ _ ?_);rcases Zcr he with ⟨h1,rfl⟩ | ⟨d,h1,hd,rfl⟩
 ·rw [h1]
  exact ⟨H,φ,hG⟩
 ·rw [h1]
  exact ⟨H,φ,hG.value hd hx⟩
theorem Zjw (hG:Gam B N w0 H0 s a w H φ){x:Operand}(ho:o.op=.assign x\/o.op=.move x)(he:(S.effAssign N o.dst x).run s=some (e,l)):Zmr P B N w0 H0 o s e a w:=by
 have hrun:(execOp a.eval o).run P w=.ok (.value (a.eval x)) w:=by
  rcases ho with ho | ho <;> (unfold execOp;simp only [ho,Yat])
 cases x with
 | tmp t =>
  unfold S.effAssign at he;obtain ⟨v,_,_,h1,h2⟩:=Zl _ _ he;simp only [S.Rd.run] at h2;have hs:s.sl t=some v:=by
   simp only [S.evalA,S.Rd.run] at h1
   split at h1
   ·rename_i u l' hu
    simp only [Option.some.injEq,Prod.mk.injEq] at h1;obtain ⟨rfl,_⟩:=h1;exact Zah hu
   ·cases h1
  split at h2
  ·rename_i e' l' h3
   simp only [Option.some.injEq,Prod.mk.injEq] at h2;obtain ⟨rfl,_⟩:=h2
   split at h3
   ·rename_i z htl
    intro K Q hK;refine Ze4 hrun (hK _ _ ?_);rcases Zcr h3 with ⟨h4,rfl⟩ | ⟨d,h4,hd,rfl⟩
    ·rw [h4]
     exact ⟨H,φ,hG⟩
    ·rw [h4]
     refine ⟨H,φ,hG.next (.inr ⟨d,v,_,rfl,rfl,hd,?_,fun z hz=>⟨?_,fun t' g hne hdr hsm hg hg2=>?_⟩⟩) (Yh _ _) (Stay.refl _ _) (fun _ _=>rfl) hG.bnd (fun _ _=>rfl) hG.ent hG.inj (fun _ _ _ _ _ _=>⟨rfl,rfl⟩)⟩
     ·exact hG.slot t v hs
     ·cases hz
      obtain ⟨x',hx',hok⟩:=hG.tail t _ htl;rw [hs] at hx'
      cases hx'
      exact hok
     ·have hne':t'≠t:=fun e=>hdr (by rw [e])
      exact hG.tinj t' t hne' hsm (by rw [htl];rfl) g hg hg2
   ·exact Zad hG h3 (hG.slot t v hs) hrun
  ·cases h2
 | const c =>
  unfold S.effAssign at he;obtain ⟨v,_,_,h1,h2⟩:=Zl _ _ he;have hc:=Zah h1;intro K Q hK;refine Ze4 hrun (hK _ _ ?_);rcases Zcr h2 with ⟨h4,rfl⟩ | ⟨d,h4,hd,rfl⟩
  ·rw [h4]
   exact ⟨H,φ,hG⟩
  ·rw [h4]
   have hnil:∀ z,(match v with | .row _ _=>some ((0,0):TypeId×Nat) | _=>none)=some z->c=.slice none 0 0/\v=.row 0 []:=fun z hz=>by
    unfold S.constA at hc
    split at hc <;> cases hc <;> first | (simp at hz;done) | exact ⟨rfl,rfl⟩
   refine ⟨H,φ,hG.next (.inr ⟨d,v,_,rfl,rfl,hd,.inr (Zdj hc H w).1,fun z hz=>⟨?_,fun t' g hne hdr hsm hg hg2=>?_⟩⟩) (Yh _ _) (Stay.refl _ _) (fun _ _=>rfl) hG.bnd (fun _ _=>rfl) hG.ent hG.inj (fun _ _ _ _ _ _=>⟨rfl,rfl⟩)⟩
   ·obtain ⟨rfl,rfl⟩:=hnil z hz
    exact ⟨0,[],rfl,.inl ⟨rfl,rfl⟩⟩
   ·obtain ⟨rfl,rfl⟩:=hnil z hz
    simp [Act.eval,Yam] at hg2
 | func f =>
  unfold S.effAssign at he;obtain ⟨v,_,_,h1,h2⟩:=Zl _ _ he;exact Zad hG h2 (Zt hG h1) hrun
 | global g =>
  unfold S.effAssign at he;obtain ⟨v,_,_,h1,h2⟩:=Zl _ _ he;exact Zad hG h2 (Zt hG h1) hrun
theorem Zk7 (hG:Gam B N w0 H0 s a w H φ){i:Nat}(hi:(s.hp i).isSome=true):φ i<w.heap.size:=by
 obtain ⟨⟨t,cs⟩,h⟩:=Yac.1 hi;obtain ⟨_,_,vs,h1,_⟩:=hG.ent i t cs h;exact (Yv.1 h1).1
theorem Zdk {H':Zu}{w':World}(hG:Gam B N w0 H0 s a w H φ)(hb:Below w.heap.size w w')(hH:∀ b,b<w.heap.size->H' b=H b):Stay H w H' w':=fun b h e=>by
 have hlt:=(hG.bnd b h e).lt;refine ⟨h,(hH b hlt).trans e,Yb _,fun o _=>?_⟩;exact hb.cell (p:=⟨b,o,none⟩) hlt
theorem Zk8 (hG:Gam B N w0 H0 s a w H φ){id:Nat}{t:TypeId}{cs:List S.AV}{vs:List Value}(he:(S.fresh N o.dst id t cs).run s=some (e,l))(hx:RepL H w cs vs)
 (hr:(execOp a.eval o).run P w=.ok (.value (.pointer (some ⟨w.heap.size,0,none⟩))) (w.alloc (.cells vs.toArray t (0,0)))):Zmr P B N w0 H0 o s e a w:=by
 unfold S.fresh at he
 split at he
 ·rename_i d hdst
  split at he
  ·rename_i hd
   simp only [S.Rd.run] at he
   split at he
   ·rename_i e' l' h1
    split at h1
    ·rename_i hnone
     simp only [S.Rd.run,Option.some.injEq,Prod.mk.injEq] at h1 he;obtain ⟨rfl,_⟩:=h1;obtain ⟨rfl,_⟩:=he;intro K Q hK;refine Ze4 hr (hK _ _ ?_);have hb:Below w.heap.size w (w.alloc (.cells vs.toArray t (0,0))):=(Yh _ _).alloc (Yb _) _;have hst:Stay H w H (w.alloc (.cells vs.toArray t (0,0))):=Zdk hG hb fun _ _=>rfl
     have hsz:(w.alloc (.cells vs.toArray t (0,0))).heap.size=w.heap.size+1:=by show (w.heap.push _).size=_;simp
     have hnew:=heap_alloc_new w (.cells vs.toArray t (0,0));rw [hdst];refine ⟨H,fun i=>if i=id then w.heap.size else φ i,hG.next (.inr ⟨d,_,_,rfl,rfl,hd,.inl ⟨id,0,rfl,?_,?_⟩,fun z hz=>by cases hz⟩) (hb.mono hG.base) hst (fun _ _=>rfl) (fun b n h=>?_) (fun i hi=>?_) (fun i t' cs' hi=>?_) (fun i j hi hj hij=>?_) (fun t' g _ _ hsm hg=>⟨?_,rfl⟩)⟩
     ·unfold S.Eff.apply;simp
     ·simp
     ·exact (hG.bnd b n h).below hb
     ·have hne:i≠id:=fun e=>by rw [e,hnone] at hi;cases hi
      simp only [if_neg hne]
     ·unfold S.Eff.apply at hi
      simp only at hi;by_cases c:i=id
      ·rw [if_pos c] at hi
       cases hi
       simp only [if_pos c];refine ⟨hG.base,?_,vs,hnew,RepL.stay hst cs vs hx⟩
       cases hH:H w.heap.size with
       | none=>rfl
       | some n=>have:=(hG.bnd _ n hH).lt;omega
      ·rw [if_neg c] at hi
       simp only [if_neg c];obtain ⟨h2,h3,vs',h4,h5⟩:=hG.ent i t' cs' hi;exact ⟨h2,h3,vs',(hb.block _ (Zk7 hG (by rw [hi];rfl))).trans h4,RepL.stay hst cs' vs' h5⟩
     ·have hlive:∀ i,i≠id->(((⟨some (d,.box id 0,none),none,some (id,(t,cs))⟩:S.Eff).apply s).hp i).isSome=true->(s.hp i).isSome=true:=fun i hne hi=>by
       unfold S.Eff.apply at hi;simp only [if_neg hne] at hi;exact hi
      have hij:(if i=id then w.heap.size else φ i)=(if j=id then w.heap.size else φ j):=hij;by_cases ci:i=id
      ·by_cases cj:j=id
       ·rw [ci,cj]
       ·rw [if_pos ci,if_neg cj] at hij
        have:=Zk7 hG (hlive j cj hj);omega
      ·by_cases cj:j=id
       ·rw [if_neg ci,if_pos cj] at hij
        have:=Zk7 hG (hlive i ci hi);omega
       ·rw [if_neg ci,if_neg cj] at hij
        exact hG.inj i j (hlive i ci hi) (hlive j cj hj) hij
     ·obtain ⟨z,hz⟩:=Yac.1 hsm
      obtain ⟨x,_,hok⟩:=hG.tail t' z hz;obtain ⟨⟨n,hn⟩,_⟩:=hok.own hg;exact hb.block g (hG.bnd g n hn).lt
    ·simp [S.Rd.run] at h1
   ·cases he
  ·simp [S.Rd.run] at he
 ·simp [S.Rd.run] at he
theorem Zig {t:TypeId}{cs:List S.AV}(h:S.zeroA P t=some cs):∃ i z,P.info? t=some i/\i.zero=some z/\S.constsA z.cells.toList=some cs:=by
 unfold S.zeroA at h
 split at h
 ·rename_i i hi
  split at h
  ·rename_i z hz
   exact ⟨i,z,hi,hz,h⟩
  ·cases h
 ·cases h
theorem Zs2 (hG:Gam B N w0 H0 s a w H φ){id:Nat}{t:TypeId}(ho:o.op=.alloc t)(he:(match S.zeroA P t with | some cs=>S.fresh N o.dst id t cs | none=>.fail).run s=some (e,l)):Zmr P B N w0 H0 o s e a w:=by
 split at he
 ·rename_i cs hcs
  obtain ⟨i,z,hi,hz,hc⟩:=Zig hcs;refine Zk8 hG he (Zd3 hc H w) ?_;unfold execOp;simp only [ho,Instr.alloc,zeroValue,typeInfo,Yag,run_program,Y3,hi,hz,Yat,newVar,newRow,run_newObj];rfl
 ·simp [S.Rd.run] at he
theorem Zzh (hG:Gam B N w0 H0 s a w H φ){id:Nat}{t:TypeId}{x:Operand}(ho:o.op=.box t x)(he:((S.evalA x).bind fun v=>(S.Rd.ofOpt v.cells).bind fun cs=>S.fresh N o.dst id t cs).run s=some (e,l)):Zmr P B N w0 H0 o s e a w:=by
 obtain ⟨v,_,_,h1,h2⟩:=Zl _ _ he;obtain ⟨cs,_,_,h3,h4⟩:=Zl _ _ h2;have hc:=Zah h3;obtain ⟨vs,e1,h5⟩:=Zjs (Zjv (Zt hG h1) hc) hc;refine Zk8 hG h4 h5 ?_;unfold execOp;simp only [ho,Instr.box,newVar,newRow,Yag,run_newObj,Y3,Yat,e1];rfl
theorem Zk9 {ps:Array (Nat×Operand)}:(ps.map fun (i,x)=>(i,a.eval x)).toList=ps.toList.map fun p=>(p.1,a.eval p.2):=by simp
theorem Zow:∀ {fs:List Field} {places:List (Nat×Nat)},S.placesA P fs=some places->fs.mapM (fun f=>(P.info? f.type).map fun i=>(f.offset,i.size))=some places
 | [],places,h=>by simp [S.placesA] at h;subst h;rfl
 | f::r,places,h=>by
  unfold S.placesA at h
  split at h
  ·rename_i i l h1 h2
   cases h
   rw [List.mapM_cons,h1];simp [Zow h2]
  ·cases h
theorem Zs3 (hG:Gam B N w0 H0 s a w H φ){t:TypeId}{ps:Array (Nat×Operand)}(ho:o.op=.build t ps)(he:((S.partsA ps.toList).bind fun vs=>S.effBuild P N o.dst t vs).run s=some (e,l)):Zmr P B N w0 H0 o s e a w:=by
 obtain ⟨vs,_,_,h1,h2⟩:=Zl _ _ he;have hp:=Zha hG h1;rw [<- Zk9] at hp;have fin:∀ (place:Nat->Option (Nat×Nat)) (z:Value) (cs0:List S.AV) (l:List Nat),S.constsA z.cells.toList=some cs0->((S.Rd.ofOpt (S.fillA place cs0 vs)).bind fun cs=>S.leave N o.dst (.agg cs) none none).run s=some (e,l) ->
  (∀ cells,Instr.fill place z.cells ((ps.map fun (i,x)=>(i,a.eval x)).toList)=some cells->P.built t ((ps.map fun (i,x)=>(i,a.eval x)).toList)=some cells)->Zmr P B N w0 H0 o s e a w:=fun place z cs0 l hz h hb=>by
  obtain ⟨cs,_,_,h3,h4⟩:=Zl _ _ h;obtain ⟨r,hr,hrep⟩:=Zml hp (Zd3 hz H w) (Zah h3);refine Zad hG h4 (u:=.agg r) (.inr ?_) ?_
  ·rw [RepV]
   exact ⟨r.toList,by simp,hrep⟩
  ·unfold execOp
   simp only [ho,Yag,run_build w t _ r (hb r hr),Y3,Yat]
 unfold S.effBuild at h2
 split at h2
 ·rename_i cs0 fields hz hu
  obtain ⟨i,z,hi,hzz,hc⟩:=Zig hz
  split at h2
  ·rename_i places hpl
   refine fin _ z cs0 _ hc h2 fun cells hf=>?_
   unfold Program.built;simp only [hi,hu,hzz,Zow hpl];exact hf
  ·simp [S.Rd.run] at h2
 ·rename_i cs0 n e' hz hu
  obtain ⟨i,z,hi,hzz,hc⟩:=Zig hz
  split at h2
  ·rename_i k hk
   refine fin _ z cs0 _ hc h2 fun cells hf=>?_
   unfold S.sizeA at hk
   cases hie:P.info? e' with
   | none=>rw [hie] at hk;cases hk
   | some ie =>
    rw [hie] at hk;simp at hk;subst hk;unfold Program.built;simp only [hi,hu,hzz,hie];exact hf
  ·simp [S.Rd.run] at h2
 ·simp [S.Rd.run] at h2
end
end
section
open Go.RowKit
section
variable {P:Program}{B N:Nat}{w0:World}{H0:Zu}{s:S.St}{a:Act}{w:World}{H:Zu}{φ:Nat->Nat}{o:Oper}{e:S.Eff}{l:List Nat}
theorem Zjx (z:Array Value)(hz:0<z.size):∀ n:Nat,((Array.range (n*z.size)).map (z[·%z.size]!)).toList=(Yu n z.toList).flatten
 | 0=>by simp
 | n+1=>by
  have ih:=Zjx z hz n;rw [Array.toList_map,Array.toList_range] at ih ⊢;rw [List.replicate_succ',List.flatten_append,<- ih,Ycg,Nat.one_mul,List.range_add,List.map_append]
  congr 1
  rw [List.map_map]
  apply Yb5
  ·simp
  ·intro i h1 h2
   simp only [List.length_map,List.length_range] at h1;have e1:(n*z.size+i)%z.size=i:=by
    rw [Nat.mul_comm,Nat.mul_add_mod,Nat.mod_eq_of_lt h1]
   simp [e1,h1]
theorem Zox {z:List S.AV}{vz:List Value}(h:RepL H w z vz):∀ n:Nat,RepL H w (S.timesA z n) ((Yu n vz).flatten)
 | 0=>by rw [S.timesA,RepL];rfl
 | n+1=>by
  rw [S.timesA,List.replicate_succ,List.flatten_cons];exact RepL.append h (Zox h n)
theorem Zgq (z:List S.AV):∀ n:Nat,(S.timesA z n).length=n*z.length
 | 0=>by rw [S.timesA];simp
 | n+1=>by rw [S.timesA,Yd,Zgq z n,Ycg];omega
theorem Zhw {place:Nat->Option (Nat×Nat)}:∀ {ps:List (Nat×List S.AV)} {cs out:List S.AV},S.fillA place cs ps=some out->out.length=cs.length
 | [],cs,out,h=>by simp [S.fillA] at h;subst h;rfl
 | (i,v)::r,cs,out,h=>by
  unfold S.fillA at h
  split at h
  ·cases h
  ·split at h
   ·rename_i hh
    rw [Zhw h];simp only [Yd,Yq,List.length_drop];omega
   ·cases h
theorem Zcs {t:TypeId}{n:Nat}(h:S.sizeA P t=some n):∃ i,P.info? t=some i/\i.size=n:=by
 unfold S.sizeA at h
 cases hi:P.info? t with
 | none=>rw [hi] at h;cases h
 | some i=>rw [hi] at h;exact ⟨i,rfl,by simpa using h⟩
theorem Zw0 (hG:Gam B N w0 H0 s a w H φ){d:Nat}(hd:d<N){n z:Nat}{cs:List S.AV}{cur:Array Value}{t:TypeId}{c:Nat}{w':World}{drop:Option Nat}
 (hw:w'=w.alloc (.cells cur t (0,0))\/w'=w.drew.alloc (.cells cur t (0,0))) {xs:List Value} (hx:RepL H w cs xs) (hcur:cur.toList.take cs.length=xs)
 (hn:n<=c) (hc:c<=maxLen) (hsz:cur.size=c*z) (hlen:cs.length=n*z) (hz:0<z) :
 GamX B N w0 H0 ((⟨some (d,.row n cs,some (t,z)),drop,none⟩:S.Eff).apply s) (a.put (some d) (.slice (some ⟨w.heap.size,0,none⟩) n c)) w':=by
 have hb:Below w.heap.size w w':=by
  rcases hw with rfl | rfl
  ·exact (Yh _ _).alloc (Yb _) _
  ·exact ⟨rfl,rfl,rfl,by show w.heap.size<=(w.heap.push _).size;simp,fun k hk=>heap_alloc_old w.drew _ hk⟩
 have hsize:w'.heap.size=w.heap.size+1:=by
  rcases hw with rfl | rfl <;> (show (w.heap.push _).size=_;simp)
 have hnew:w'.heap[w.heap.size]?=some (.cells cur t (0,0)):=by
  rcases hw with rfl | rfl
  ·exact heap_alloc_new w _
  ·exact heap_alloc_new w.drew _
 obtain ⟨H',hH'⟩:∃ H':Zu,H'=fun b=>if b=w.heap.size then some cs.length else H b:=⟨_,rfl⟩
 have h1:H' w.heap.size=some cs.length:=by rw [hH'];simp
 have h2:∀ b,b≠w.heap.size->H' b=H b:=fun b hb=>by rw [hH'];simp [hb]
 have hst:Stay H w H' w':=Zdk hG hb fun b hb=>h2 b (by omega)
 have hrange:w'.rangeAt w.heap.size 0 xs:=fun j v hj=>by
  rw [Yc hnew,Yaa];have hj2:j<cs.length:=by rw [<- RepL.length hx];exact (Yg.1 hj).1
  rw [<- hcur,Ybg,if_pos hj2] at hj
  simpa using hj
 have hrep:RepC H' w' cs w.heap.size 0:=Zjt (RepL.stay hst cs xs hx) hrange;refine ⟨H',φ,hG.next (.inr ⟨d,_,_,rfl,rfl,hd,.inr ?_,fun y hy=>⟨?_,fun t' g hne hdr hsm hg hg2=>?_⟩⟩) (hb.mono hG.base) hst (fun b hb'=>h2 b (by have:=hG.base;omega)) (fun b k hk=>?_) (fun _ _=>rfl) (fun i t' cs' hi=>?_) hG.inj (fun t' g _ _ hsm hg=>?_)⟩
 ·rw [RepV]
  refine ⟨_,c,rfl,fun h0=>Y0 (by rw [hlen,h0];simp),fun h0=>(by cases h0),.inr ⟨_,0,_,rfl,h1,by omega,hrep⟩⟩
 ·cases hy
  exact ⟨n,cs,rfl,.inr ⟨_,c,cur,rfl,hG.base,h1,hnew,hn,hc,hsz,hlen,hz⟩⟩
 ·simp only [Yam,Option.some.injEq] at hg2
  obtain ⟨y',hy'⟩:=Yac.1 hsm;obtain ⟨x,_,hok⟩:=hG.tail t' y' hy';obtain ⟨⟨k,hk⟩,_⟩:=hok.own hg;have:=(hG.bnd g k hk).lt;omega
 ·by_cases hbe:b=w.heap.size
  ·rw [hbe]
   exact ⟨_,_,hnew⟩
  ·rw [h2 b hbe] at hk
   exact (hG.bnd b k hk).below hb
 ·have hi':s.hp i=some (t',cs'):=hi
  obtain ⟨h3,h4,vs',h5,h6⟩:=hG.ent i t' cs' hi';have hlt:=Zk7 hG (i:=i) (by rw [hi'];rfl);exact ⟨h3,(h2 _ (by omega)).trans h4,vs',(hb.block _ hlt).trans h5,RepL.stay hst cs' vs' h6⟩
 ·obtain ⟨y',hy'⟩:=Yac.1 hsm
  obtain ⟨x,_,hok⟩:=hG.tail t' y' hy';obtain ⟨⟨k,hk⟩,_⟩:=hok.own hg;have:=(hG.bnd g k hk).lt;exact ⟨hb.block g this,h2 g (by omega)⟩
theorem Zs4 (hG:Gam B N w0 H0 s a w H φ){t:TypeId}{len:Nat}{ps:Array (Nat×Operand)}(ho:o.op=.buildSlice t len ps)(he:((S.partsA ps.toList).bind fun vs=>S.effSlice P N o.dst t len vs).run s=some (e,l)):Zmr P B N w0 H0 o s e a w:=by
 obtain ⟨vs,_,_,h1,h2⟩:=Zl _ _ he;have hp:=Zha hG h1;rw [<- Zk9] at hp;unfold S.effSlice at h2
 split at h2
 ·rename_i e' hu
  split at h2
  ·rename_i z n hz hn
   split at h2
   ·rename_i hh
    obtain ⟨hzl,hn0,hl0,hbig⟩:=hh;obtain ⟨cs,_,_,h3,h4⟩:=Zl _ _ h2;obtain ⟨i,zv,hi,hzz,hc⟩:=Zig hz;obtain ⟨i',hi',hin⟩:=Zcs hn;rw [hi] at hi'
    cases hi'
    subst hin;have hcr:=Zd3 hc H w;have hzsz:zv.cells.size=i.size:=by rw [<- hzl,<- RepL.length hcr];simp
    have hrep0:RepL H w (S.timesA z len) ((Array.range (len*i.size)).map (zv.cells[·%zv.cells.size]!)).toList:=by
     rw [<- hzsz,Zjx _ (by omega)];exact Zox hcr len
    have hf:=Zah h3;obtain ⟨r,hr,hrr⟩:=Zml hp hrep0 hf;have hlen:cs.length=len*i.size:=by rw [Zhw hf,Zgq,hzl]
    have hpos:0<len*i.size:=Nat.mul_pos hl0 hn0;have hrun:(execOp a.eval o).run P w=.ok (.value (.slice (some ⟨w.heap.size,0,none⟩) len len)) (w.alloc (.cells r e')):=by
     unfold execOp;simp only [ho,Yag,run_buildSlice w t e' len _ r i zv hu hi hzz (by omega) (by omega) hr,Y3,Yat]
    intro K Q hK;refine Ze4 hrun (hK _ _ ?_);rcases Zcr h4 with ⟨h5,rfl⟩ | ⟨d,h5,hd,rfl⟩
    ·rw [h5]
     have hb:Below w.heap.size w (w.alloc (.cells r e')):=(Yh _ _).alloc (Yb _) _;exact ⟨H,φ,hG.next (.inl ⟨rfl,rfl⟩) (hb.mono hG.base) (Zdk hG hb fun _ _=>rfl) (fun _ _=>rfl) (fun b k hk=>(hG.bnd b k hk).below hb) (fun _ _=>rfl)
      (fun i t' cs' hi=>by
       have hi':s.hp i=some (t',cs'):=hi;obtain ⟨h3,h4,vs',h5,h6⟩:=hG.ent i t' cs' hi';exact ⟨h3,h4,vs',(hb.block _ (Zk7 hG (by rw [hi'];rfl))).trans h5,RepL.stay (Zdk hG hb fun _ _=>rfl) cs' vs' h6⟩) hG.inj
      (fun t' g _ _ hsm hg=>by
       obtain ⟨y',hy'⟩:=Yac.1 hsm;obtain ⟨x,_,hok⟩:=hG.tail t' y' hy';obtain ⟨⟨k,hk⟩,_⟩:=hok.own hg;exact ⟨hb.block g (hG.bnd g k hk).lt,rfl⟩)⟩
    ·rw [h5]
     have hrs:r.size=len*i.size:=by
      have:=RepL.length hrr;simp only [Ybn] at this;rw [this,hlen]
     refine Zw0 hG hd (.inl rfl) hrr ?_ (Yb _) (by simp only [maxLen];have:len<=len*i.size:=Nat.le_mul_of_pos_right _ hn0;omega) hrs hlen hn0;rw [List.take_of_length_le (by simp [hrs,hlen])]
   ·simp [S.Rd.run] at h2
  ·simp [S.Rd.run] at h2
 ·simp [S.Rd.run] at h2
theorem Zro {t:TypeId}{b off q:Nat}{cs:List S.AV}{vs:List Value}{v:S.AV}(hr:w.rangeAt b q vs)(hx:RepL H w cs vs)(h:S.loadA P t cs off=some v) :
 ∃ u,(Instr.loadAt t (.pointer (some ⟨b,q+off,none⟩))).run P w=.ok u w/\RepV H w v u:=by
 unfold S.loadA at h
 cases hu:P.underlying t with
 | none=>simp [S.isAggA,hu] at h
 | some d =>
  cases hd:d.isRow with
  | true =>
   simp only [S.isAggA,hu,Ycc,hd] at h
   cases hn:S.sizeA P t with
   | none=>rw [hn] at h;cases h
   | some n =>
    rw [hn] at h;simp only at h
    split at h
    ·rename_i hle
     cases h
     obtain ⟨i,hi,hin⟩:=Zcs hn;have hl:=RepL.length hx;refine ⟨.agg ((vs.drop off).take n).toArray,run_loadAt_mid w b (q+off) t ((vs.drop off).take n) d (fun j u hj=>?_) hu hd ?_,?_⟩
     ·rw [Ybg] at hj
      split at hj
      ·rw [List.getElem?_drop] at hj
       have:=hr (off+j) u hj;rw [<- Nat.add_assoc] at this;exact this
      ·cases hj
     ·rw [hi]
      simp only [Ycc,hin,Yq,List.length_drop]
      congr 1
      omega
     ·rw [RepV]
      exact ⟨_,rfl,RepL.take n (RepL.drop off hx)⟩
    ·cases h
  | false =>
   simp only [S.isAggA,hu,Ycc,hd] at h;obtain ⟨u,hu2,_,hv⟩:=RepL.at_ hx h;refine ⟨u,?_,hv⟩;have hagg':(isAgg t).run P w=.ok false w:=by
    unfold isAgg;rw [Yag,run_underlying hu w]
    cases d <;> simp_all
   have hc:=hr off u hu2;simp only [Instr.loadAt,Instr.sureAddr,Yag,Yat,Y3,loadVar,hagg',Bool.false_eq_true,if_false,run_load,hc]
theorem Zhx {b:Nat}{vs:List Value}{t:TypeId}{fr:Nat×Nat}(h:w.heap[b]?=some (.cells vs.toArray t fr)):w.rangeAt b 0 vs:=fun j v hj=>by
 rw [Yc h,Yaa]
 simpa using hj
theorem Zw1 (hG:Gam B N w0 H0 s a w H φ){t:TypeId}{x:Operand}(ho:o.op=.load t x)(he:((S.evalA x).bind fun v=>S.effLoad P N o.dst t v).run s=some (e,l)):Zmr P B N w0 H0 o s e a w:=by
 obtain ⟨v,_,_,h1,h2⟩:=Zl _ _ he;have hv:=Zt hG h1;have fin:∀ (b off q:Nat) (cs:List S.AV) (vs:List Value) (l:List Nat),a.eval x=.pointer (some ⟨b,q+off,none⟩)->w.rangeAt b q vs->RepL H w cs vs->((S.Rd.ofOpt (S.loadA P t cs off)).bind fun v=>S.leave N o.dst v none none).run s=some (e,l)->Zmr P B N w0 H0 o s e a w:=fun b off q cs vs l hx hr hl h=>by
  obtain ⟨u,_,_,h3,h4⟩:=Zl _ _ h;obtain ⟨r,hrun,hrep⟩:=Zro hr hl (Zah h3);refine Zad hG h4 (.inr hrep) ?_;unfold execOp;simp only [ho,hx,Yag,hrun,Y3,Yat]
 unfold S.effLoad at h2
 split at h2
 ·rename_i i off
  simp only [S.Rd.run] at h2;rcases hv with ⟨i',off',hi,hsm,hx⟩ | hv
  ·cases hi
   obtain ⟨⟨t',cs⟩,hcs⟩:=Yac.1 hsm;rw [hcs] at h2
   split at h2
   ·rename_i e' l' h3
    simp only [Option.some.injEq,Prod.mk.injEq] at h2;obtain ⟨rfl,_⟩:=h2;obtain ⟨_,_,vs,h4,h5⟩:=hG.ent i t' cs hcs;exact fin (φ i) off 0 cs vs _ (by rw [Yaa];exact hx) (Zhx h4) h5 h3
   ·cases h2
  ·rw [RepV] at hv
   exact hv.elim
 ·rename_i cs off
  rcases hv with ⟨i',off',hi,_⟩ | hv
  ·cases hi
  ·rw [RepV] at hv
   obtain ⟨b,q,k,hx,_,_,hc⟩:=hv;obtain ⟨vs,h3,h4⟩:=Zdi hc;exact fin b off q cs vs _ hx h4 h3 h2
 ·simp [S.Rd.run] at h2
theorem Zs5 (hG:Gam B N w0 H0 s a w H φ){t:TypeId}{x y:Operand}(ho:o.op=.store t x y)(he:((S.evalA x).bind fun v=>(S.evalA y).bind fun u=>(S.Rd.ofOpt u.cells).bind fun cs=>S.effStore P o.dst t cs v).run s=some (e,l)):Zmr P B N w0 H0 o s e a w:=by
 obtain ⟨v,_,_,h1,h2⟩:=Zl _ _ he;obtain ⟨u,_,_,h3,h4⟩:=Zl _ _ h2;obtain ⟨ds,_,_,h5,h6⟩:=Zl _ _ h4;have hv:=Zt hG h1;have hc:=Zah h5;obtain ⟨us,eus,hus⟩:=Zjs (Zjv (Zt hG h3) hc) hc;unfold S.effStore at h6
 split at h6
 ·rename_i i off
  simp only [S.Rd.run] at h6;rcases hv with ⟨i',off',hi,hsm,hx⟩ | hv
  ·cases hi
   obtain ⟨⟨t',cs⟩,hcs⟩:=Yac.1 hsm;rw [hcs] at h6
   split at h6
   ·rename_i e' l' h7
    simp only [Option.some.injEq,Prod.mk.injEq] at h6;obtain ⟨rfl,_⟩:=h6;simp only at h7
    split at h7
    ·rename_i hh
     obtain ⟨hdst,hsz,hle⟩:=hh;simp only [S.Rd.run,Option.some.injEq,Prod.mk.injEq] at h7;obtain ⟨rfl,_⟩:=h7;obtain ⟨hB,hHn,vs,h8,h9⟩:=hG.ent i t' cs hcs;have hlv:=RepL.length h9;have hlu:=RepL.length hus;obtain ⟨inf,hi,hin⟩:=Zcs hsz;have hst:=run_storeCells_at P (φ i) off t' us 0 vs.toArray w h8 (by simp;omega) (RepL.one hus);simp only [Ybe] at hst;have hrun:(execOp a.eval o).run P w=.ok .skip (w.setRow (φ i) (vs.take off++us++vs.drop (off+us.length)).toArray):=by
      unfold execOp;simp only [ho,hx,Instr.storeAt,Instr.sureAddr,Yag,Yat,Y3,storeVar,sizeOf,typeInfo,run_program,hi];rw [eus];simp only [hin,Yc0,hlu,ne_eq,not_true_eq_false,if_false,hst,Y3]
     have hother:∀ k,k≠φ i->(w.setRow (φ i) (vs.take off++us++vs.drop (off+us.length)).toArray).heap[k]?=w.heap[k]?:=fun k hk=>setRow_other w _ k _ hk
     have hself:=setRow_heap w (φ i) vs.toArray (vs.take off++us++vs.drop (off+us.length)).toArray t' (0,0) h8;have hsize:(w.setRow (φ i) (vs.take off++us++vs.drop (off+us.length)).toArray).heap.size=w.heap.size:=by simp [World.setRow]
     have hb:Below B w (w.setRow (φ i) (vs.take off++us++vs.drop (off+us.length)).toArray):=⟨rfl,rfl,rfl,by rw [hsize];exact Yb _,fun k hk=>hother k (by omega)⟩
     have hst2:Stay H w H (w.setRow (φ i) (vs.take off++us++vs.drop (off+us.length)).toArray):=fun b k hb=>⟨k,hb,Yb _,fun q _=>World.cell?_of_block (hother b (fun e=>by rw [e,hHn] at hb;cases hb))⟩
     intro K Q hK;refine Zs1 hrun (hK _ _ ?_);rw [hdst];refine ⟨H,φ,hG.next (.inl ⟨rfl,rfl⟩) hb hst2 (fun _ _=>rfl) (fun b k hk=>(hG.bnd b k hk).of (hother b fun e=>by rw [e,hHn] at hk;cases hk)) (fun _ _=>rfl) (fun j t2 cs2 hj=>?_) (fun j j' hj hj' hjj=>?_) (fun t2 g _ _ hsm2 hg=>?_)⟩
     ·unfold S.Eff.apply at hj
      simp only at hj;by_cases c:j=i
      ·subst c
       rw [if_pos rfl] at hj
       cases hj
       refine ⟨hB,hHn,_,hself,?_⟩;have:=RepL.append (RepL.append (RepL.take off h9) hus) (RepL.drop (off+ds.length) h9);rw [<- hlu] at this ⊢;exact RepL.stay hst2 _ _ this
      ·rw [if_neg c] at hj
       obtain ⟨q1,q2,vs2,q3,q4⟩:=hG.ent j t2 cs2 hj;refine ⟨q1,q2,vs2,(hother _ fun e=>c (hG.inj j i (by rw [hj];rfl) hsm e)).trans q3,RepL.stay hst2 _ _ q4⟩
     ·have hlive:∀ j,(((⟨none,none,some (i,(t',cs.take off++ds++cs.drop (off+ds.length)))⟩:S.Eff).apply s).hp j).isSome=true->(s.hp j).isSome=true:=fun j hj=>by
       unfold S.Eff.apply at hj;simp only at hj;by_cases c:j=i
       ·rw [c];exact hsm
       ·rw [if_neg c] at hj;exact hj
      exact hG.inj j j' (hlive j hj) (hlive j' hj') hjj
     ·obtain ⟨y',hy'⟩:=Yac.1 hsm2
      obtain ⟨x2,_,hok⟩:=hG.tail t2 y' hy';obtain ⟨⟨k,hk⟩,_⟩:=hok.own hg;exact ⟨hother g (fun e=>by rw [e,hHn] at hk;cases hk),rfl⟩
    ·simp [S.Rd.run] at h7
   ·cases h6
  ·rw [RepV] at hv
   exact hv.elim
 ·simp [S.Rd.run] at h6
end
end
section
open Go.RowKit
def AFn (P:Program)(W:World->Prop)(f:FuncId)(xs:List S.AV)(r:S.AV)(y:S.Tail):Prop :=
 ∀ (H:Zu) (w:World) (vs:List Value),(∀ b k,H b=some k->Bk w b)->W w->RepT H w xs vs->Calls P f vs.toArray w fun e w' =>
  ∃ v H',e=.returned v/\Below w.heap.size w w'/\(∀ b,b<w.heap.size->H' b=H b)/\(∀ b k,H' b=some k->Bk w' b)/\RepV H' w' r v/\∀ z,y=some z->TailOk H' w' w.heap.size z r v
section
variable {P:Program}{B N:Nat}{w0:World}{H0:Zu}{s:S.St}{a:Act}{w:World}{H:Zu}{φ:Nat->Nat}{o:Oper}{e:S.Eff}{l:List Nat}
theorem Zs6 (t ty e:TypeId)(i:TypeInfo)(z:Value)(ht:P.underlying t=some (.slice e))(hi:P.info? e=some i)(hz:i.zero=some z)(hzs:z.cells.size=i.size)(hsz:0<i.size)
 (base:Nat) (v:Value) (n:Nat) (xs:List Value) (hown:w.ownsRow base e i.size v n xs) (A:Option Addr) (m c:Nat) (news:List Value) (hl:news.length=m*i.size) (hA:A=none->m=0)
 (hnews:∀ ad,A=some ad->∀ j u,news[j]?=some u->w.cell? (ad.add j)=some u) (h1:∀ u∈news,u.oneCell'=true) (h63:n+m<=1000000) (hbytes:(n+m)*i.bytes<=140737488355328) :
 ∃ v' w',(Builtin.append_ #[t,t] ty #[v,.slice A m c]).run P w=.ok v' w' /\
  ((m=0/\v'=v/\w'=w)\/(∃ g cap cur cur',v=.slice (some ⟨g,0,none⟩) n cap/\v'=.slice (some ⟨g,0,none⟩) (n+m) cap/\w.heap[g]?=some (.cells cur e (0,0))/\n+m<=cap/\cap<=maxLen/\w'=w.setRow g cur'/\cur'.size=cap*i.size/\cur'.toList.take ((n+m)*i.size)=xs++news/\base<=g)\/(∃ cap cur',v'=.slice (some ⟨w.heap.size,0,none⟩) (n+m) cap/\n+m<=cap/\cap<=maxLen/\w'=w.drew.alloc (.cells cur' e (0,0))/\cur'.size=cap*i.size/\cur'.toList.take ((n+m)*i.size)=xs++news)):=by
 have hlen:(xs++news).length=(n+m)*i.size:=by rw [Yd,hown.1,hl,Ycg]
 rcases A with _ | ad
 ·have h0:=hA rfl
  subst h0;exact ⟨v,w,Zch w base t _ e i i.size ht hi v n xs hown c,.inl ⟨rfl,rfl,rfl⟩⟩
 have hn:=hnews ad rfl;have grown:∀ (old:Nat),n+m<=grownCap w (n+m) old e/\grownCap w (n+m) old e<=maxLen/\(xs.toArray++news.toArray++Builtin.zeroCells z.cells (grownCap w (n+m) old e-(n+m))).size=grownCap w (n+m) old e*i.size /\
  (xs.toArray++news.toArray++Builtin.zeroCells z.cells (grownCap w (n+m) old e-(n+m))).toList.take ((n+m)*i.size)=xs++news:=fun old=>by
  have hge:=grownCap_ge w (n+m) old e;have hcm:grownCap w (n+m) old e<=maxLen:=grownCap_le_maxLen w (n+m) old e (by simp only [maxLen];omega);refine ⟨hge,hcm,?_,?_⟩
  ·simp only [Array.size_append,Yc0,size_zeroCells,hzs,hown.1,hl,<- Ycg]
   congr 1
   omega
  ·simp only [Array.toList_append,Ym]
   rw [<- Ym,<- hlen];exact List.take_left
 rcases hown.2 with ⟨rfl,rfl⟩ | ⟨g,cap,cur,rfl,hbg,hg,hnc,hcm,hcs,htake⟩
 ·have hx:xs=[]:=Y0 (by simpa using hown.1)
  subst hx;by_cases hm:m=0
  ·subst hm
   refine ⟨.slice none 0 0,w,?_,.inl ⟨rfl,rfl,rfl⟩⟩;simp [Builtin.append_,run_underlying ht,sizeOf,typeInfo,hi,Builtin.lenOf,Builtin.firstCells,loadCells,loadCellsFrom]
  ·have hr:=run_append_nil (P:=P) w t ty e i z ht hi hz ad m c news hl hn (by omega) (by omega) (by have hb:=hbytes;simp only [Yaa] at hb;omega)
   obtain ⟨q1,q2,q3,q4⟩:=grown 0;simp only [Yaa,List.nil_append,Array.empty_append] at q1 q2 q3 q4 ⊢;exact ⟨_,_,hr,.inr (.inr ⟨_,_,rfl,q1,q2,rfl,q3,q4⟩)⟩
 ·by_cases hroom:n+m<=cap
  ·have hfit:n*i.size+news.length<=cur.size:=by rw [hl,hcs,<- Ycg];exact Nat.mul_le_mul_right _ hroom
   have hr:=run_append_room (P:=P) w t ty e i ht hi g n cap cur hg ad m c news hl hn h1 hroom hfit;refine ⟨_,_,hr,.inr (.inl ⟨g,cap,cur,_,rfl,rfl,hg,hroom,hcm,rfl,?_,?_,hbg⟩)⟩
   ·simp only [Yc0,Yd,Yq,List.length_drop,Ybn]
    omega
   ·rw [htake,<- hlen]
    exact List.take_left
  ·have holds:∀ j u,xs[j]?=some u->w.cell? ((⟨g,0,none⟩:Addr).add j)=some u:=hown.cells (g:=g) rfl
   have hr:=run_append_grow (P:=P) w t ty e i z ht hi hz ⟨g,0,none⟩ n cap xs hown.1 holds ad m c news hl hn (by omega) (by omega) (growslice_fits (by omega) hbytes);obtain ⟨q1,q2,q3,q4⟩:=grown cap;exact ⟨_,_,hr,.inr (.inr ⟨_,_,rfl,q1,q2,rfl,q3,q4⟩)⟩
theorem Zgr {y:TypeId×Nat}{n:Nat}{cs:List S.AV}{v:Value}{t:TypeId}{z:Nat}(h:TailOk H w B y (.row n cs) v)(hr:RepV H w (.row n cs) v)(hy:(y.1=t/\y.2=z)\/y.2=0)(hlen:cs.length=n*z):∃ xs,RepL H w cs xs/\w.ownsRow B t z v n xs/\∀ g,v.ownBlock=some g->H g=some cs.length:=by
 obtain ⟨n',cs',e,hh⟩:=h
 cases e
 rw [RepV] at hr;obtain ⟨A,c,ev,h0,_,hc⟩:=hr;rcases hh with ⟨rfl,rfl⟩ | ⟨g,cap,cur,rfl,hB,hH,hg,hnc,hcm,hsz,hl,hz⟩
 ·have:=h0 rfl
  subst this;exact ⟨[],by rw [RepL],World.ownsRow_nil w B t z,fun g hg=>by simp [Yam] at hg⟩
 ·obtain ⟨rfl,rfl⟩:y.1=t/\y.2=z:=by
   rcases hy with hy | hy
   ·exact hy
   ·omega
  have hle:cs.length<=cur.size:=by rw [hl,hsz];exact Nat.mul_le_mul_right _ hnc
  refine ⟨cur.toList.take cs.length,?_,⟨?_,.inr ⟨g,cap,cur,rfl,hB,hg,hnc,hcm,hsz,by rw [hl]⟩⟩,fun g' hg'=>?_⟩
  ·rcases hc with rfl | ⟨b,off,k,hA,hb,_,hcc⟩
   ·rw [List.length_nil,List.take_zero,RepL]
   ·cases ev
    cases hA
    obtain ⟨vs,h1,h2⟩:=Zdi hcc;have e1:vs=cur.toList.take cs.length:=by
     have hvl:=RepL.length h1
     apply Yb5
     ·rw [hvl,Yq];simp;omega
     ·intro j hj hj2
      have:=h2 j vs[j] (List.getElem?_eq_getElem hj);rw [Yc hg,Yaa] at this;rw [List.getElem_take];have hj3:j<cur.size:=by omega
      rw [Array.getElem?_eq_getElem hj3] at this
      simpa using (Option.some.inj this).symm
    rw [<- e1];exact h1
  ·rw [Yq]
   simp;omega
  ·simp only [Yam,Option.some.injEq] at hg'
   subst hg';exact hH
theorem Zqg (hG:Gam B N w0 H0 s a w H φ){t:TypeId}{sl:Nat}{x:Operand}{c:Call}(ho:o.op=.call c)(hcal:c.callee=.builtin .append)(hargs:c.args.toList=[.tmp sl,x])(htys:c.argTypes.toList=[t,t])
 (he:((S.evalA x).bind fun v=>S.effAppend P N o.dst t sl v).run s=some (e,l)):Zmr P B N w0 H0 o s e a w:=by
 have ha:c.args=#[.tmp sl,x]:=by rw [<- Ybx (xs:=c.args),hargs]
 have hty:c.argTypes=#[t,t]:=by rw [<- Ybx (xs:=c.argTypes),htys]
 obtain ⟨v,_,_,h1,h2⟩:=Zl _ _ he;have hv:=Zt hG h1;unfold S.effAppend at h2
 split at h2
 ·rename_i e' hu
  split at h2
  ·rename_i i hi
   split at h2
   ·rename_i z hz
    simp only [S.Rd.run] at h2
    cases hsl:s.sl sl with
    | none=>rw [hsl] at h2;cases htl:s.tl sl <;> (rw [htl] at h2;simp [S.Rd.run] at h2)
    | some old =>
     cases htl:s.tl sl with
     | none=>rw [hsl,htl] at h2;simp [S.Rd.run] at h2
     | some y =>
      rw [hsl,htl] at h2
      cases old with
      | row n cs =>
       cases v with
       | row m ds =>
        simp only at h2
        split at h2
        ·rename_i e1 l1 h3
         simp only [Option.some.injEq,Prod.mk.injEq] at h2;obtain ⟨rfl,_⟩:=h2
         split at h3
         ·rename_i e2 l2 h4
          simp only [Option.some.injEq,Prod.mk.injEq] at h3;obtain ⟨rfl,_⟩:=h3
          split at h4
          ·rename_i hh
           obtain ⟨hy,hzs,hsz,hlc,hld,h63,hby,hdst⟩:=hh;have hvr:RepV H w (.row m ds) (a.eval x):=by
            rcases hv with ⟨_,_,hq,_⟩ | hv
            ·cases hq
            ·exact hv
           rw [RepV] at hvr;obtain ⟨A,cp,hx,hm0,hA0,hcx⟩:=hvr;have hold:RepV H w (.row n cs) (a.tmps.getD sl undef):=by
            rcases hG.slot sl _ hsl with ⟨_,_,hq,_⟩ | hv
            ·cases hq
            ·exact hv
           obtain ⟨x',hx',hok⟩:=hG.tail sl y htl;rw [hsl] at hx'
           cases hx'
           obtain ⟨xs,hxs,hown,hHg⟩:=Zgr hok hold (t:=e') (z:=i.size) (by obtain ⟨y1,y2⟩:=y;exact hy) hlc;obtain ⟨news,hnews,hcells⟩:∃ news,RepL H w ds news/\∀ ad,A=some ad->∀ j u,news[j]?=some u->w.cell? (ad.add j)=some u:=by
            rcases hcx with rfl | ⟨b,off,k,rfl,_,_,hcc⟩
            ·exact ⟨[],by rw [RepL],fun ad _ j u hj=>by simp at hj⟩
            ·obtain ⟨vs,q1,q2⟩:=Zdi hcc
             refine ⟨vs,q1,fun ad had j u hj=>?_⟩
             cases had
             rw [Addr.add_mid];exact q2 j u hj
           have hln:=RepL.length hnews;obtain ⟨v',w',hrun,hcase⟩:=Zs6 (P:=P) t o.type e' i z hu hi hz hzs hsz B _ n xs hown A m cp news (by rw [hln,hld]) hA0 hcells (RepL.one hnews) h63 hby;have hex:(execOp a.eval o).run P w=.ok (.value v') w':=by
            have e3:a.eval (.tmp sl)=a.tmps.getD sl undef:=rfl;unfold execOp;simp only [ho,resolve,hcal,ha,hty,invoke,builtin,Yag,Yat,Y3,List.map_toArray,List.map_cons,List.map_nil,hx,e3,hrun]
           intro K Q hK;refine Ze4 hex (hK _ _ ?_);have hall:=RepL.append hxs hnews;have hlen:(cs++ds).length=(n+m)*i.size:=by rw [Yd,hlc,hld,Ycg]
           rcases Zcr h4 with ⟨h5,rfl⟩ | ⟨d,h5,hd,rfl⟩
           ·exfalso
            rw [h5] at hdst
            cases hdst
           ·rw [h5]
            rcases hcase with ⟨rfl,rfl,rfl⟩ | ⟨g,cap,cur,cur',hvg,rfl,hg,hnm,hcm,rfl,hsz',htake,hBg⟩ | ⟨cap,cur',rfl,hnm,hcm,rfl,hsz',htake⟩
            ·have hds:ds=[]:=Y0 (by rw [hld];simp)
             subst hds;rw [Ybe,List.append_nil];refine ⟨H,φ,hG.next (.inr ⟨d,_,_,rfl,rfl,hd,.inr hold,fun q hq=>⟨?_,fun t' g hne hdr hsm hg hg2=>?_⟩⟩) (Yh _ _) (Stay.refl _ _) (fun _ _=>rfl) hG.bnd (fun _ _=>rfl) hG.ent hG.inj (fun _ _ _ _ _ _=>⟨rfl,rfl⟩)⟩
             ·cases hq
              obtain ⟨n',cs',e9,hh⟩:=hok
              cases e9
              rcases hh with ⟨q1,q2⟩ | ⟨g,cap,cur,q1,q2,q3,q4,q5,q6,q7,q8,q9⟩
              ·exact ⟨n,cs,rfl,.inl ⟨q1,q2⟩⟩
              ·obtain ⟨y1,y2⟩:=y
               obtain ⟨rfl,rfl⟩:y1=e'/\y2=i.size:=by
                rcases hy with hy | hy
                ·exact hy
                ·simp only at q9;omega
               exact ⟨n,cs,rfl,.inr ⟨g,cap,cur,q1,q2,q3,q4,q5,q6,q7,q8,q9⟩⟩
             ·exact hG.tinj t' sl (fun e9=>hdr (by rw [e9])) hsm (by rw [htl];rfl) g hg hg2
            ·have hHg':=hHg g (by rw [hvg];rfl)
             have hcur:cur.toList.take (n*i.size)=xs:=by
              rcases hown.2 with ⟨q1,_⟩ | ⟨g2,cap2,cur2,q1,_,q2,_,_,_,q3⟩
              ·rw [hvg] at q1;cases q1
              ·rw [hvg] at q1
               cases q1
               rw [hg] at q2
               cases q2
               exact q3
             have hxl:=RepL.length hxs;have hother:∀ k,k≠g->(w.setRow g cur').heap[k]?=w.heap[k]?:=fun k hk=>setRow_other w _ k _ hk
             have hself:=setRow_heap w g cur cur' e' (0,0) hg;have hsize:(w.setRow g cur').heap.size=w.heap.size:=by simp [World.setRow]
             have hgl:g<w.heap.size:=(Yv.1 hg).1;have hb:Below B w (w.setRow g cur'):=⟨rfl,rfl,rfl,by rw [hsize];exact Yb _,fun k hk=>hother k (by omega)⟩
             obtain ⟨H',hH'⟩:∃ H':Zu,H'=fun b=>if b=g then some (cs++ds).length else H b:=⟨_,rfl⟩
             have q1:H' g=some (cs++ds).length:=by rw [hH'];simp
             have q2:∀ b,b≠g->H' b=H b:=fun b hb=>by rw [hH'];simp [hb]
             have hst:Stay H w H' (w.setRow g cur'):=fun b k hk=>by
              by_cases c:b=g
              ·subst c
               rw [hHg'] at hk
               cases hk
               refine ⟨_,q1,by rw [Yd];omega,fun q hq=>?_⟩;rw [Yc hself,Yc hg];have e1:cur'[q]?=(xs++news)[q]?:=by
                rw [<- htake,Ybg,if_pos (by rw [<- hlen,Yd];omega)];simp
               have e2:cur[q]?=xs[q]?:=by
                rw [<- hcur,Ybg,if_pos (by rw [<- hlc];omega)];simp
               rw [e1,e2,List.getElem?_append_left (by omega)]
              ·exact ⟨k,(q2 b c).trans hk,Yb _,fun q _=>World.cell?_of_block (hother b c)⟩
             have hrange:(w.setRow g cur').rangeAt g 0 (xs++news):=fun j u hj=>by
              rw [Yc hself,Yaa];have hj2:j<(xs++news).length:=(Yg.1 hj).1;have hj3:j<(n+m)*i.size:=by
               rw [<- hlen,Yd];rw [Yd] at hj2;omega
              rw [<- htake,Ybg,if_pos hj3] at hj
              simpa using hj
             refine ⟨H',φ,hG.next (.inr ⟨d,_,_,rfl,rfl,hd,.inr ?_,fun q hq=>⟨?_,fun t' g' hne hdr hsm hg1 hg2=>?_⟩⟩) hb hst (fun b hb'=>q2 b (by omega)) (fun b k hk=>?_) (fun _ _=>rfl) (fun j t2 cs2 hj=>?_) hG.inj (fun t' g' _ hdr hsm hg1=>?_)⟩
             ·rw [RepV]
              exact ⟨_,cap,rfl,fun h0=>Y0 (by rw [hlen,h0];simp),fun h0=>(by cases h0),.inr ⟨g,0,_,rfl,q1,by omega,Zjt (RepL.stay hst _ _ hall) hrange⟩⟩
             ·cases hq
              exact ⟨n+m,cs++ds,rfl,.inr ⟨g,cap,cur',rfl,hBg,q1,hself,hnm,hcm,hsz',hlen,hsz⟩⟩
             ·simp only [Yam,Option.some.injEq] at hg2
              subst hg2;exact hG.tinj t' sl (fun e9=>hdr (by rw [e9])) hsm (by rw [htl];rfl) g hg1 (by rw [hvg];rfl)
             ·by_cases c:b=g
              ·rw [c];exact ⟨_,_,hself⟩
              ·rw [q2 b c] at hk
               exact (hG.bnd b k hk).of (hother b c)
             ·have hj':s.hp j=some (t2,cs2):=hj
              obtain ⟨p1,p2,vs2,p3,p4⟩:=hG.ent j t2 cs2 hj';have hne:φ j≠g:=fun e9=>by rw [e9,hHg'] at p2;cases p2
              exact ⟨p1,(q2 _ hne).trans p2,vs2,(hother _ hne).trans p3,RepL.stay hst _ _ p4⟩
             ·have hne:g'≠g:=fun e9=>by
               subst e9;exact hG.tinj t' sl (fun e9=>hdr (by rw [e9])) hsm (by rw [htl];rfl) g' hg1 (by rw [hvg];rfl)
              exact ⟨hother g' hne,q2 g' hne⟩
            ·exact Zw0 hG hd (.inr rfl) hall (by rw [hlen];exact htake) hnm hcm hsz' hlen hsz
          ·simp [S.Rd.run] at h4
         ·cases h3
        ·cases h2
       | _=>simp [S.Rd.run] at h2
      | _=>cases v <;> simp [S.Rd.run] at h2
   ·simp [S.Rd.run] at h2
  ·simp [S.Rd.run] at h2
 ·simp [S.Rd.run] at h2
theorem Zw2 (hG:Gam B N w0 H0 s a w H φ){W:World->Prop}(hW:W w){call:FuncId->List S.AV->Option (S.AV×S.Tail)}(hcall:∀ f xs r y,call f xs=some (r,y)->AFn P W f xs r y){c:Call}(ho:o.op=.call c){f:Operand}(hcal:c.callee=.value f)
 (he:((S.evalA f).bind fun g=>(S.evalsA c.args.toList).bind fun vs=>S.effCall P N call o.dst g vs).run s=some (e,l)):Zmr P B N w0 H0 o s e a w:=by
 obtain ⟨g,_,_,h1,h2⟩:=Zl _ _ he;obtain ⟨vs,_,_,h3,h4⟩:=Zl _ _ h2;have hg:=Zt hG h1;unfold S.effCall at h4
 split at h4
 ·rename_i k
  split at h4
  ·rename_i hh
   obtain ⟨hok,hfree⟩:=hh
   split at h4
   ·rename_i r y hr
    have hgv:a.eval f=.func (.func k) #[] #[]:=by
     rcases hg with ⟨_,_,hq,_⟩ | hg
     ·cases hq
     ·rw [RepV] at hg;exact hg
    have hargs:=Zk6 hG h3 hfree;obtain ⟨fn, hfn, hbody, hname⟩ : ∃ fn, P.funcs[k]? = some fn ∧ fn.body.isNone = false ∧ (fn.name == "runtime.NumGoroutine") = false := by
     unfold S.okFn at hok
     split at hok
     ·rename_i fn hfn
      simp only [Bool.and_eq_true,Bool.not_eq_true'] at hok;exact ⟨fn,hfn,by have:=hok.1;cases hb:fn.body <;> simp_all,hok.2⟩
     ·cases hok
    have hex:(execOp a.eval o).run P w=.ok (.enter k (c.args.toList.map a.eval).toArray) w:=by
     unfold execOp;simp only [ho,resolve,hcal,hgv,Deferred.ofValue,Yag,Yat,Y3,invoke,callFunc,run_program,hfn,hname,hbody,Bool.false_eq_true,if_false]
     congr 2
     simp;rw [<- Array.toList_map,Ybx]
    intro K Q hK;unfold Oper.wp;rw [hex];refine Calls.mono (hcall k vs r y hr H w _ hG.bnd hW hargs) ?_;rintro e' w' ⟨v,H',rfl,hb,hH,hbnd,hrep,htail⟩;refine hK _ _ ?_;have hst:Stay H w H' w':=Zdk hG hb hH;have hent:∀ i t' cs',s.hp i=some (t',cs')->B<=φ i/\H' (φ i)=none/\∃ vs:List Value,w'.heap[φ i]?=some (.cells vs.toArray t' (0,0))/\RepL H' w' cs' vs:=fun i t' cs' hi=>by
     obtain ⟨p1,p2,vs2,p3,p4⟩:=hG.ent i t' cs' hi;have hlt:=Zk7 hG (i:=i) (by rw [hi];rfl);exact ⟨p1,(hH _ hlt).trans p2,vs2,(hb.block _ hlt).trans p3,RepL.stay hst _ _ p4⟩
    have htl:∀ t' g,(s.tl t').isSome=true->(a.tmps.getD t' undef).ownBlock=some g->g<w.heap.size:=fun t' g hsm hg=>by
     obtain ⟨y',hy'⟩:=Yac.1 hsm;obtain ⟨x,_,hok⟩:=hG.tail t' y' hy';obtain ⟨⟨k,hk⟩,_⟩:=hok.own hg;exact (hG.bnd g k hk).lt
    rcases Zcr h4 with ⟨h5,rfl⟩ | ⟨d,h5,hd,rfl⟩
    ·rw [h5]
     exact ⟨H',φ,hG.next (.inl ⟨rfl,rfl⟩) (hb.mono hG.base) hst (fun b hb'=>hH b (by have:=hG.base;omega)) hbnd (fun _ _=>rfl) (fun i t' cs' hi=>hent i t' cs' hi) hG.inj (fun t' g _ _ hsm hg=>⟨hb.block g (htl t' g hsm hg),hH g (htl t' g hsm hg)⟩)⟩
    ·rw [h5]
     refine ⟨H',φ,hG.next (.inr ⟨d,_,_,rfl,rfl,hd,.inr hrep,fun z hz=>⟨?_,fun t' g hne hdr hsm hg1 hg2=>?_⟩⟩) (hb.mono hG.base) hst (fun b hb'=>hH b (by have:=hG.base;omega)) hbnd (fun _ _=>rfl) (fun i t' cs' hi=>hent i t' cs' hi) hG.inj (fun t' g _ _ hsm hg=>⟨hb.block g (htl t' g hsm hg),hH g (htl t' g hsm hg)⟩)⟩
     ·obtain ⟨n,cs,e9,hh⟩:=htail z hz
      refine ⟨n,cs,e9,?_⟩;rcases hh with hh | ⟨g,cap,cur,q1,q2,q3⟩
      ·exact .inl hh
      ·exact .inr ⟨g,cap,cur,q1,Nat.le_trans hG.base q2,q3⟩
     ·obtain ⟨n,cs,e9,hh⟩:=htail z hz
      rcases hh with ⟨q1,_⟩ | ⟨g',cap,cur,q1,q2,q3⟩
      ·rw [q1] at hg2;simp [Yam] at hg2
      ·rw [q1] at hg2
       simp only [Yam,Option.some.injEq] at hg2;subst hg2;have:=htl t' g' hsm hg1;omega
   ·simp [S.Rd.run] at h4
  ·simp [S.Rd.run] at h4
 ·simp [S.Rd.run] at h4
theorem Zjy (hG:Gam B N w0 H0 s a w H φ){m:Sem Value}(hex:execOp a.eval o=(do pure (.value (← m))))(he:((S.Rd.ofOpt (S.pureRun P m)).bind fun r=>(S.Rd.ofOpt (S.constA r)).bind fun z=>S.leave N o.dst z none none).run s=some (e,l)):Zmr P B N w0 H0 o s e a w:=by
 obtain ⟨r,_,_,h1,h2⟩:=Zl _ _ he;obtain ⟨z,_,_,h3,h4⟩:=Zl _ _ h2;refine Zad hG h4 (.inr (Zdj (Zah h3) H w).1) ?_;rw [hex];simp only [Yag,Zju m (Zah h1) w,Y3,Yat]
theorem Zs7 (hG:Gam B N w0 H0 s a w H φ){xt:TypeId}{x:Operand}{f:Nat}(ho:o.op=.field xt x f)(he:((S.evalA x).bind fun v=>S.effField P N o.dst xt f v).run s=some (e,l)):Zmr P B N w0 H0 o s e a w:=by
 obtain ⟨v,_,_,h1,h2⟩:=Zl _ _ he;have hv:=Zt hG h1;unfold S.effField at h2
 split at h2
 ·rename_i cs
  split at h2
  ·rename_i fields hu
   split at h2
   ·rename_i fd hfd
    obtain ⟨u,_,_,h3,h4⟩:=Zl _ _ h2;have h5:=Zah h3;have hvr:RepV H w (.agg cs) (a.eval x):=by
     rcases hv with ⟨_,_,hq,_⟩ | hv
     ·cases hq
     ·exact hv
    rw [RepV] at hvr;obtain ⟨vs,hx,hl⟩:=hvr;have hpart:∃ r,(part fd.type vs.toArray fd.offset).run P w=.ok r w/\RepV H w u r:=by
     unfold S.loadA at h5
     cases hut:P.underlying fd.type with
     | none=>simp [S.isAggA,hut] at h5
     | some dd =>
      cases hdd:dd.isRow with
      | true =>
       simp only [S.isAggA,hut,Ycc,hdd] at h5
       cases hn:S.sizeA P fd.type with
       | none=>rw [hn] at h5;cases h5
       | some n =>
        rw [hn] at h5;simp only at h5
        split at h5
        ·rename_i hle
         cases h5
         obtain ⟨i,hi,hin⟩:=Zcs hn;have hagg':(isAgg fd.type).run P w=.ok true w:=by
          unfold isAgg;rw [Yag,run_underlying hut w]
          cases dd <;> simp_all
         refine ⟨.agg (vs.toArray.extract fd.offset (fd.offset+i.size)),by simp [part,Yag,hagg',sizeOf,typeInfo,hi],?_⟩;rw [RepV];refine ⟨(vs.drop fd.offset).take n,?_,RepL.take n (RepL.drop fd.offset hl)⟩;rw [hin];simp
        ·cases h5
      | false =>
       simp only [S.isAggA,hut,Ycc,hdd] at h5;obtain ⟨r,hr,_,hrep⟩:=RepL.at_ hl h5;have hagg':(isAgg fd.type).run P w=.ok false w:=by
        unfold isAgg;rw [Yag,run_underlying hut w]
        cases dd <;> simp_all
       exact ⟨r,by simp [part,Yag,hagg',hr],hrep⟩
    obtain ⟨r,hrun,hrep⟩:=hpart;refine Zad hG h4 (.inr hrep) ?_;unfold execOp;simp only [ho,hx,Instr.field,Yag,run_underlying hu,Y3,hfd,asAgg,Yat,hrun]
   ·simp [S.Rd.run] at h2
  ·simp [S.Rd.run] at h2
 ·simp [S.Rd.run] at h2
theorem Zkf (hG:Gam B N w0 H0 s a w H φ){xt:TypeId}{x:Operand}{f:Nat}(ho:o.op=.fieldAddr xt x f)(he:((S.evalA x).bind fun v=>S.effFieldAddr P N o.dst xt f v).run s=some (e,l)):Zmr P B N w0 H0 o s e a w:=by
 obtain ⟨v,_,_,h1,h2⟩:=Zl _ _ he;have hv:=Zt hG h1;unfold S.effFieldAddr at h2
 split at h2
 ·rename_i i off
  split at h2
  ·rename_i fields hu
   split at h2
   ·rename_i fd hfd
    split at h2
    ·rename_i n hn
     simp only [S.Rd.run] at h2;rcases hv with ⟨i',off',hi,hsm,hx⟩ | hv
     ·cases hi
      obtain ⟨en,hen⟩:=Yac.1 hsm;rw [hen] at h2
      split at h2
      ·rename_i e' l' h3
       simp only [Option.some.injEq,Prod.mk.injEq] at h2;obtain ⟨rfl,_⟩:=h2;obtain ⟨inf,hi,hin⟩:=Zcs hn;refine Zad hG h3 (.inl ⟨i,off+fd.offset,rfl,hsm,rfl⟩) ?_;unfold execOp;simp only [ho,hx,Instr.fieldAt,Yag,run_underlying hu,Y3,hfd,Instr.sureAddr,Yat,fieldPlace,sizeOf,typeInfo,run_program,hi,hin,Addr.add_mid];simp
      ·cases h2
     ·rw [RepV] at hv;exact hv.elim
    ·simp [S.Rd.run] at h2
   ·simp [S.Rd.run] at h2
  ·simp [S.Rd.run] at h2
 ·simp [S.Rd.run] at h2
theorem Zw3 {k:IntKind}{n:Int}{v:Value}(h:Zwy H w φ s (.int k n) v):v=.int k n:=by
 rcases h with ⟨_,_,hq,_⟩ | h
 ·cases hq
 ·rw [RepV] at h;exact h
theorem Zkg (hG:Gam B N w0 H0 s a w H φ){t:TypeId}{x ix:Operand}(ho:o.op=.indexAddr t x ix)(he:((S.evalA x).bind fun v=>(S.evalA ix).bind fun u=>S.effIndexAddr P N o.dst t v u).run s=some (e,l)):Zmr P B N w0 H0 o s e a w:=by
 obtain ⟨v,_,_,h1,h2⟩:=Zl _ _ he;obtain ⟨u,_,_,h3,h4⟩:=Zl _ _ h2;have hv:=Zt hG h1;have hu:=Zt hG h3;unfold S.effIndexAddr at h4
 split at h4
 ·rename_i e' n cs k i hut
  split at h4
  ·rename_i z hz
   split at h4
   ·rename_i hh
    obtain ⟨hi0,hin,hlen,hzp⟩:=hh;obtain ⟨inf,hinf,hins⟩:=Zcs hz;have hvr:RepV H w (.row n cs) (a.eval x):=by
     rcases hv with ⟨_,_,hq,_⟩ | hv
     ·cases hq
     ·exact hv
    rw [RepV] at hvr;obtain ⟨A,c,hx,_,_,hc⟩:=hvr;have hixv:=Zw3 hu;have hne:cs≠[]:=fun e9=>by
     rw [e9] at hlen;have:0<n*z:=Nat.mul_pos (by omega) hzp;simp at hlen;omega
    rcases hc with hc | ⟨b,q,h,rfl,hH,hle,hcc⟩
    ·exact absurd hc hne
    ·have hp:RepV H w (.ptr cs (i.toNat*z)) (.pointer (some ⟨b,q+i.toNat*z,none⟩)):=by
      rw [RepV];exact ⟨b,q,h,rfl,hH,hle,hcc⟩
     refine Zad hG h4 (.inr hp) ?_
     ·unfold execOp
      simp only [ho,hx,hixv,Instr.indexAt,asIntOf,Yag,run_underlying hut,Y3,Yat];rw [if_pos ⟨hi0,hin⟩];simp only [Yag,sizeOf,typeInfo,run_program,hinf,Y3,Yat,hins,Addr.add_mid]
   ·simp [S.Rd.run] at h4
  ·simp [S.Rd.run] at h4
 ·rename_i n e' b off k i hut
  split at h4
  ·rename_i z hz
   split at h4
   ·rename_i hh
    obtain ⟨inf,hinf,hins⟩:=Zcs hz;simp only [S.Rd.run] at h4;rcases hv with ⟨i',off',hi,hsm,hx⟩ | hv
    ·cases hi
     obtain ⟨en,hen⟩:=Yac.1 hsm;rw [hen] at h4
     split at h4
     ·rename_i e2 l' h5
      simp only [Option.some.injEq,Prod.mk.injEq] at h4;obtain ⟨rfl,_⟩:=h4;have hixv:=Zw3 hu;refine Zad hG h5 (.inl ⟨b,off+i.toNat*z,rfl,hsm,rfl⟩) ?_;unfold execOp;simp only [ho,hx,hixv,Instr.indexAt,asIntOf,Yag,run_underlying hut,Y3,Yat,Instr.sureAddr];rw [if_pos hh];simp only [Yag,sizeOf,typeInfo,run_program,hinf,Y3,Yat,hins,Addr.add_mid]
     ·cases h4
    ·rw [RepV] at hv;exact hv.elim
   ·simp [S.Rd.run] at h4
  ·simp [S.Rd.run] at h4
 ·simp [S.Rd.run] at h4
theorem Zoy (hG:GamX B N w0 H0 s a w){W:World->Prop}(hW:W w){call:FuncId->List S.AV->Option (S.AV×S.Tail)}(hcall:∀ f xs r y,call f xs=some (r,y)->AFn P W f xs r y){id:Nat}
 (he:(S.effOne P N call id o).run s=some (e,l)):Zmr P B N w0 H0 o s e a w:=by
 obtain ⟨H,φ,hG⟩:=hG;unfold S.effOne at he
 split at he
 ·rename_i x ho;exact Zjw hG (.inr ho) he
 ·rename_i x ho;exact Zjw hG (.inl ho) he
 ·rename_i c x y ho
  obtain ⟨v,_,_,h1,he⟩:=Zl _ _ he;have hv:=Zt hG h1
  split at he
  ·rename_i b
   obtain ⟨u,_,_,h3,h4⟩:=Zl _ _ he;have hu:=Zt hG h3;have hc:a.eval c=.bool b:=by
    rcases hv with ⟨_,_,hq,_⟩ | hv
    ·cases hq
    ·rw [RepV] at hv;exact hv
   refine Zad hG h4 hu ?_;unfold execOp
   cases b <;> simp [ho,hc,asBool]
  ·simp [S.Rd.run] at he
 ·rename_i t ho;exact Zs2 hG ho he
 ·rename_i t x ho;exact Zzh hG ho he
 ·rename_i t ps ho;exact Zs3 hG ho he
 ·rename_i t len ps ho;exact Zs4 hG ho he
 ·rename_i t x ho;exact Zw1 hG ho he
 ·rename_i t x y ho;exact Zs5 hG ho he
 ·rename_i op xt x y yt ho
  obtain ⟨v,_,_,h1,he⟩:=Zl _ _ he;obtain ⟨u,_,_,h2,he⟩:=Zl _ _ he;obtain ⟨v',_,_,h3,he⟩:=Zl _ _ he;obtain ⟨u',_,_,h4,he⟩:=Zl _ _ he;have e1:=Zif (Zt hG h1) (Zah h3);have e2:=Zif (Zt hG h2) (Zah h4);refine Zjy hG (m:=do eqGuard op xt x y v' u';binOp op xt v' u') ?_ he;unfold execOp;simp only [ho,e1,e2]
 ·rename_i op xt x ho
  obtain ⟨v,_,_,h1,he⟩:=Zl _ _ he;obtain ⟨v',_,_,h3,he⟩:=Zl _ _ he;have e1:=Zif (Zt hG h1) (Zah h3);refine Zjy hG (m:=Op.unary op v') ?_ he;unfold execOp;simp only [ho,e1]
 ·rename_i t t' x ho
  obtain ⟨v,_,_,h1,he⟩:=Zl _ _ he;obtain ⟨v',_,_,h3,he⟩:=Zl _ _ he;have e1:=Zif (Zt hG h1) (Zah h3);refine Zjy hG (m:=convert t t' v') ?_ he;unfold execOp;simp only [ho,e1]
 ·rename_i x i ho
  obtain ⟨v,_,_,h1,he⟩:=Zl _ _ he;have hv:=Zt hG h1
  split at he
  ·rename_i vs
   obtain ⟨u,_,_,h3,h4⟩:=Zl _ _ he;have h5:=Zah h3;rcases hv with ⟨_,_,hq,_⟩ | hv
   ·cases hq
   ·rw [RepV] at hv
    obtain ⟨us,hx,hT⟩:=hv;obtain ⟨r,hr,hrep⟩:=RepT.at_ hT h5;refine Zad hG h4 (.inr hrep) ?_;unfold execOp;have hr':us.toArray[i]?=some r:=by simpa using hr
    simp only [ho,hx,Instr.extract,hr',Yag,Yat,Y3]
  ·simp [S.Rd.run] at he
 ·rename_i xt x f ho;exact Zs7 hG ho he
 ·rename_i xt x f ho;exact Zkf hG ho he
 ·rename_i t x i ho;exact Zkg hG ho he
 ·rename_i c ho
  split at he
  ·rename_i f hcal;exact Zw2 hG hW hcall ho hcal he
  ·rename_i hcal
   split at he
   ·rename_i sl x t t' hargs htys
    split at he
    ·rename_i htt
     subst htt;exact Zqg hG ho hcal hargs htys he
    ·simp [S.Rd.run] at he
   ·simp [S.Rd.run] at he
  ·rename_i hcal
   split at he
   ·rename_i x t hargs htys
    split at he
    ·rename_i et hut
     obtain ⟨v,_,_,h1,he⟩:=Zl _ _ he;have hv:=Zt hG h1
     split at he
     ·rename_i n cs
      rcases hv with ⟨_,_,hq,_⟩ | hv
      ·cases hq
      ·rw [RepV] at hv
       obtain ⟨A,cp,hx,_⟩:=hv;have ha:c.args=#[x]:=by rw [<- Ybx (xs:=c.args),hargs]
       have hty:c.argTypes=#[t]:=by rw [<- Ybx (xs:=c.argTypes),htys]
       refine Zad hG he (u:=.int .i64 n) (.inr (by rw [RepV])) ?_;unfold execOp;simp [ho,resolve,hcal,ha,hty,invoke,builtin,hx,Builtin.len_,goInt,run_underlying hut]
     ·simp [S.Rd.run] at he
    ·simp [S.Rd.run] at he
   ·simp [S.Rd.run] at he
  ·simp [S.Rd.run] at he
 ·simp [S.Rd.run] at he
theorem Zrp (hG:GamX B N w0 H0 s a w){W:World->Prop}(hW:W w){call:FuncId->List S.AV->Option (S.AV×S.Tail)}(hcall:∀ f xs r y,call f xs=some (r,y)->AFn P W f xs r y){id:Nat}{ops:Array Oper}
 (he:(S.effOp P N call ops id o).run s=some (e,l)) (K:Act->World->Prop) (Q:Exit->Act->World->Prop) (hK:∀ a' w',GamX B N w0 H0 (e.apply s) a' w'->K a' w') :
 (Yak o (yielded ops a.tmps)=true/\o.wp P a w K Q)\/(Yak o (yielded ops a.tmps)=false/\K (a.put o.dst undef) w):=by
 unfold S.effOp at he
 split at he
 ·rename_i hg
  exact .inl ⟨by unfold Yak;rw [hg],Zoy hG hW hcall he K Q hK⟩
 ·rename_i j want hg
  have hwant:Yak o (yielded ops a.tmps)=(yielded ops a.tmps j==some want):=by unfold Yak;rw [hg]
  split at he
  ·rename_i d hd
   obtain ⟨v,l1,l2,h1,he2⟩:=Zl _ _ he;clear he
   split at he2
   ·rename_i b
    have hy:yielded ops a.tmps j=some b:=by
     obtain ⟨H,φ,hG⟩:=hG;have hv:a.tmps.getD d undef=.bool b:=by
      rcases Zt hG h1 with ⟨_,_,hq,_⟩ | hv
      ·cases hq
      ·rw [RepV] at hv;exact hv
     unfold S.dstOf at hd
     split at hd
     ·rename_i o' ho'
      have hlt:a.tmps[d]?=some (.bool b):=by
       cases hq:a.tmps[d]? with
       | none=>rw [Ycl,hq] at hv;cases hv
       | some x=>rw [Ycl,hq] at hv;exact congrArg some hv
      unfold yielded;rw [ho'];simp only [Option.bind_some,hd,hlt]
     ·cases hd
    rw [hwant,hy]
    split at he2
    ·rename_i hb
     subst hb;exact .inl ⟨by simp,Zoy hG hW hcall he2 K Q hK⟩
    ·rename_i hb
     refine .inr ⟨by simpa using hb,hK _ _ ?_⟩;obtain ⟨H,φ,hG⟩:=hG;rcases Zcr he2 with ⟨h4,rfl⟩ | ⟨d',h4,hd',rfl⟩
     ·rw [h4]
      exact ⟨H,φ,hG⟩
     ·rw [h4]
      exact ⟨H,φ,hG.value hd' (.inr (by rw [RepV];trivial))⟩
   ·simp [S.Rd.run] at he2
  ·simp [S.Rd.run] at he
end
end
end Go.Proofs.YtfhiobkkdcdmiaaGreatDoor
