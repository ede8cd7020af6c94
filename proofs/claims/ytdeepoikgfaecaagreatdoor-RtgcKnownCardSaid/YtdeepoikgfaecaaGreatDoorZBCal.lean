/- Parts. -/
import Derived.Test.YtdeepoikgfaecaaGreatDoorZQg
import Derived.Test.YtdeepoikgfaecaaGreatDoorZGRun
import Derived.Scope
set_option linter.all false
set_option maxHeartbeats 2000000
open Go.Lib renaming hid->Ya,cell_of_heap->Yb
open List renaming length_append->Yc,getElem?_eq_some_iff->Ye,length_cons->Yl,append_assoc->Ym,length_nil->Yat,mapM_cons->Ydz
open Nat renaming le_refl->Yf,zero_add->Yae,lt_succ_self->Ya5,strongRecOn->Ycv
open Array renaming getElem?_eq_some_iff->Yh,replicate->Y4,mapM_eq_mapM_toList->Ydo
open Go.Result renaming andThen_ok->Y5
open Go.Sem renaming run_bind->Yal,run_pure->Yau
open Go.Region renaming ready->Yav,waitsFor->Ybb,binds->Ybe
namespace Go.Proofs.YtdeepoikgfaecaaGreatDoor
set_option maxRecDepth 100000
section
open Go.RowKit
namespace S
def runOps (P:Program)(N:Nat)(call:FuncId->List AV->Option (AV×Tail))(ops:Array Oper)(ep:Nat):List Oper->Nat->St->Option (List (Eff×List Nat)×St)
 | [],_,s=>some ([],s)
 | o::r,i,s=>match (effOp P N call ops (1000*ep+i) o).run s with
  | none=>none
  | some (e,l)=>match runOps P N call ops ep r (i+1) (e.apply s) with
   | none=>none
   | some (es,s')=>some ((e,l)::es,s')
def depsOk:List Oper->Nat->Bool
 | [],_=>true
 | o::r,i=>o.after.toList.all (fun e=>!Ybe .any e || Nat.blt e.on i) && depsOk r (i+1)
def regionA (P:Program)(N:Nat)(call:FuncId->List AV->Option (AV×Tail))(ep:Nat)(ops:Array Oper)(draw:Bool)(s:St):Option St:=match runOps P N call ops ep ops.toList 0 s with
 | none=>none
 | some (es,s')=>if draw=true then (if P.follows .mixedOrders=true/\depsOk ops.toList 0=true/\apartB es (befs ops.toList []) 0=true then some s' else none) else some s'
end S
section
variable {P:Program}{B N:Nat}{w0:World}{H0:Zp}{W:World->Prop}{call:FuncId->List S.AV->Option (S.AV×S.Tail)}{ep:Nat}
theorem Zg4 {oa:Array Oper}:∀ {ops:List Oper} {i:Nat} {s s':S.St} {es:List (S.Eff×List Nat)},S.runOps P N call oa ep ops i s=some (es,s') ->
 es.length=ops.length/\s'=S.stL (fun _=>true) es i s/\∀ k o,ops[k]?=some o->∃ e l,es[k]?=some (e,l)/\(S.effOp P N call oa (1000*ep+(i+k)) o).run (S.stL (fun j=>decide (j<i+k)) es i s)=some (e,l)
 | [],i,s,s',es,h=>by
  simp only [S.runOps,Option.some.injEq,Prod.mk.injEq] at h;obtain ⟨rfl,rfl⟩:=h;exact ⟨rfl,rfl,fun k o hk=>by simp at hk⟩
 | o::r,i,s,s',es,h=>by
  unfold S.runOps at h
  split at h
  ·cases h
  ·rename_i e l he
   split at h
   ·cases h
   ·rename_i es' s2 hr
    simp only [Option.some.injEq,Prod.mk.injEq] at h;obtain ⟨rfl,rfl⟩:=h;obtain ⟨h1,h2,h3⟩:=Zg4 hr;refine ⟨by rw [Yl,Yl,h1],by rw [S.stL,if_pos rfl];exact h2,fun k o' hk=>?_⟩
    cases k with
    | zero =>
     simp at hk;subst hk;refine ⟨e,l,rfl,?_⟩;have e0:S.stL (fun j=>decide (j<i+0)) ((e,l)::es') i s=s:=by
      have key:∀ (es:List (S.Eff×List Nat)) (k:Nat) (s:S.St),i<=k->S.stL (fun j=>decide (j<i+0)) es k s=s:=by
       intro es
       induction es with
       | nil=>intro k s _;rfl
       | cons p es ih =>
        obtain ⟨e1,l1⟩:=p;intro k s hk;rw [S.stL,if_neg (by simp;omega),ih (k+1) s (by omega)]
      exact key _ i s (Yf _)
     rw [e0];exact he
    | succ k =>
     obtain ⟨e',l',h4,h5⟩:=h3 k o' (by simpa using hk);refine ⟨e',l',by simpa using h4,?_⟩;rw [S.stL,if_pos (by simp),show i+(k+1)=i+1+k by omega];exact h5
theorem GamX.drew {s:S.St}{a:Act}{w:World}(h:GamX B N w0 H0 s a w):GamX B N w0 H0 s a w.drew:=by
 obtain ⟨H,φ,h⟩:=h;refine ⟨H,φ,⟨⟨h.bel.os,h.bel.tape,h.bel.output,h.bel.size,h.bel.block⟩,h.base,h.old,h.bnd,h.size,h.defs,fun t x hx=>?_,fun i e cs hi=>?_,h.inj,fun t y hy=>?_,h.tinj⟩⟩
 ·have hst:Stay H w H w.drew:=fun b k e=>⟨k,e,Yf _,fun _ _=>rfl⟩
  rcases h.slot t x hx with hb | hr
  ·exact .inl hb
  ·exact .inr (RepV.stay hst _ _ hr)
 ·have hst:Stay H w H w.drew:=fun b k e=>⟨k,e,Yf _,fun _ _=>rfl⟩
  obtain ⟨h1,h2,vs,h3,h4⟩:=h.ent i e cs hi;exact ⟨h1,h2,vs,h3,RepL.stay hst _ _ h4⟩
 ·obtain ⟨x,hx,hok⟩:=h.tail t y hy
  exact ⟨x,hx,hok.keep fun _ _=>⟨rfl,rfl⟩⟩
variable (hW:∀ w,Below B w0 w->W w)(hcall:∀ f xs r y,call f xs=some (r,y)->AFn P W f xs r y)
include hW hcall
theorem Zw2 {s:S.St}{a:Act}{w:World}(h:GamX B N w0 H0 s a w):W w:=by
 obtain ⟨H,φ,h⟩:=h;exact hW w h.bel
theorem Zf5 {ops:Array Oper}{Q:Exit->Act->World->Prop}:∀ {l:List Oper} {i:Nat} {s s':S.St} {es:List (S.Eff×List Nat)},S.runOps P N call ops ep l i s=some (es,s')->(∀ a w,GamX B N w0 H0 s' a w->Q .normal a w)->∀ a w,GamX B N w0 H0 s a w->wpList P ops Q l a w
 | [],i,s,s',es,h,hQ,a,w,hG=>by
  simp only [S.runOps,Option.some.injEq,Prod.mk.injEq] at h;obtain ⟨_,rfl⟩:=h;exact hQ a w hG
 | o::r,i,s,s',es,h,hQ,a,w,hG=>by
  unfold S.runOps at h
  split at h
  ·cases h
  ·rename_i e l he
   split at h
   ·cases h
   ·rename_i es' s2 hr
    simp only [Option.some.injEq,Prod.mk.injEq] at h;obtain ⟨_,rfl⟩:=h;have hd:=Zpw hG (Zw2 hW hcall hG) hcall he (wpList P ops Q r) Q fun a' w' hG'=>Zf5 hr hQ a' w' hG'
    rw [wpList];rcases hd with ⟨hw,hd⟩ | ⟨hw,hd⟩
    ·rw [if_pos hw]
     exact .inl hd
    ·rw [if_neg (by rw [hw];simp)]
     exact hd
omit hW hcall in
theorem Zle:∀ {l:List Oper} {i:Nat},S.depsOk l i=true->∀ k o,l[k]?=some o->∀ e∈o.after,Ybe .any e=true->e.on<i+k
 | [],i,h,k,o,hk=>by simp at hk
 | o'::r,i,h,k,o,hk=>by
  simp only [S.depsOk,Bool.and_eq_true] at h
  cases k with
  | zero =>
   simp at hk;subst hk;intro e he hb;have:=List.all_eq_true.1 h.1 e (Array.mem_toList_iff.2 he);simp only [hb,Bool.not_true,Bool.false_or] at this
   simpa using this
  | succ k =>
   intro e he hb;have:=Zle h.2 k o (by simpa using hk) e he hb;omega
omit hW hcall in
theorem Zp4 {ops:Array Oper}(hd:S.depsOk ops.toList 0=true){listed:Array Bool}(hn:listed.size=ops.size)(hr:Yav .any ops listed=[]):∀ i,i<ops.size->listed.getD i false=true:=by
 intro i
 induction i using Ycv with
 | _ i ih =>
  intro hi
  cases hl:listed.getD i false with
  | true=>rfl
  | false =>
   have ho:ops[i]?=some ops[i]:=Array.getElem?_eq_getElem hi;have hmem:i∈Yav .any ops listed:=mem_ready.2 ⟨getD_in (by omega) hl,_,ho,fun e he hb=>by
    have:=Zle hd i ops[i] (by rw [Array.getElem?_toList];exact ho) e he hb;exact ih e.on (by omega) (by omega)⟩
   rw [hr] at hmem
   cases hmem
theorem Zp5 {ops:Array Oper}{Q:Exit->Act->World->Prop}{s s':S.St}{es:List (S.Eff×List Nat)}(h:S.runOps P N call ops ep ops.toList 0 s=some (es,s'))(hd:S.depsOk ops.toList 0=true)(hA:S.apartB es (S.befs ops.toList []) 0=true)
 (hQ:∀ a w,GamX B N w0 H0 s' a w->Q .normal a w):∀ (fuel:Nat) (listed:Array Bool) (a:Act) (w:World),listed.size=ops.size->(∀ i j,listed.getD i false=true->Ybb .any ops i j=true->listed.getD j false=true) ->
  GamX B N w0 H0 (S.stL (fun k=>listed.getD k false) es 0 s) a w->listed.toList.countP (fun b=>!b)=fuel->wpAny P .any ops Q fuel listed a w:=by
 obtain ⟨h1,h2,h3⟩:=Zg4 h;have hlen:es.length=ops.size:=by rw [h1];simp
 have hbl:(S.befs ops.toList []).length=es.length:=by rw [Zid,hlen];simp
 have hend:∀ (listed:Array Bool) (a:Act) (w:World),(∀ i,i<ops.size->listed.getD i false=true)->GamX B N w0 H0 (S.stL (fun k=>listed.getD k false) es 0 s) a w->Q .normal a w:=fun listed a w hall hG=>by
  refine hQ a w ?_;have e:S.stL (fun k=>listed.getD k false) es 0 s=s':=by
   rw [h2];refine Zxp fun r=>Zfn es 0 s s (S.same.refl _ _) fun k e l hk _=>?_
   rw [Yae];exact hall k (by rw [<- hlen];exact (Ye.1 hk).1)
  rw [<- e];exact hG
 have bits:∀ {L:Nat->Bool},(∀ i j,L i=true->Ybb .any ops i j=true->L j=true)->∀ k b,(S.befs ops.toList [])[k]?=some b->(∀ m,Ybb .any ops k m=true->L m=true)->∀ j,b.testBit j=true->L j=true:=fun {L} hcl k b hb hk j hj=>by
  have:=Zie (ops:=ops) (C:=fun k j=>(∀ m,Ybb .any ops k m=true->L m=true)->L j=true) [] ops.toList [] rfl rfl (fun i b hb=>by simp at hb) (fun i j hij hall=>hall j hij)
   (fun i j k hij hjk hall=>hjk fun m hm=>hcl j m (hall j hij) hm) k b hb j hj
  exact this hk
 intro fuel
 induction fuel with
 | zero =>
  intro listed a w hn hcl hG hc;have hall:∀ i,i<ops.size->listed.getD i false=true:=fun i hi=>by
   have hi':i<listed.size:=by omega
   cases hl:listed.getD i false with
   | true=>rfl
   | false =>
    exfalso
    have:0<listed.toList.countP (fun b=>!b):=List.countP_pos_iff.2 ⟨false,by
     have e:listed[i]=false:=by simpa [hi'] using hl
     rw [<- e];simp,rfl⟩
    omega
  refine ⟨?_,hend listed a w hall hG⟩
  cases hr:Yav .any ops listed with
  | nil=>rfl
  | cons i r =>
   have hi:i∈Yav .any ops listed:=by rw [hr];exact List.mem_cons_self
   obtain ⟨hun,o,ho,_⟩:=mem_ready.1 hi;have:=hall i (Yh.1 ho).1;rw [getD_both hun] at this
   cases this
 | succ fuel ih =>
  intro listed a w hn hcl hG hc;refine ⟨fun hr=>hend listed a w (Zp4 hd hn hr) hG,fun i hi=>?_⟩;obtain ⟨hun,o,ho,hdeps⟩:=mem_ready.1 hi;have hun':=getD_both hun;have his:=(Yh.1 ho).1;have hil:i<listed.size:=by omega
  obtain ⟨e,l,hei,hrun⟩:=h3 i o (by simpa using ho);have hw:∀ m,Ybb .any ops i m=true->listed.getD m false=true:=fun m hm=>by
   obtain ⟨oi,hoi,e',he',hb,hon⟩:=Region.waitsFor_spec hm;rw [ho] at hoi
   cases hoi
   have:=hdeps e' he' hb;rw [hon] at this;exact this
  obtain ⟨q1,q2⟩:=Zwy (L:=fun k=>listed.getD k false) hA hbl (fun k b hb hL j hj=>bits hcl k b hb (fun m hm=>hcl k m hL hm) j hj) hei hun' (fun b hb j hj=>bits hcl i b hb hw j hj) s;have hrun':=Zgx _ hrun (s':=S.stL (fun k=>listed.getD k false) es 0 s) (fun r hr=>by rw [Yae];exact q1 r hr);have hdo:=Zpw hG (Zw2 hW hcall hG) hcall hrun' (wpAny P .any ops Q fuel (listed.setIfInBounds i true)) Q fun a' w' hG'=>ih _ a' w' (by rw [Array.size_setIfInBounds];exact hn) (fun k j hk hkj=>?_) ?_ ?_
  ·unfold wpOp
   simp only [ho];rcases hdo with ⟨hw',hdo⟩ | ⟨hw',hdo⟩
   ·rw [if_pos hw']
    exact .inl hdo
   ·rw [if_neg (by rw [hw'];simp)]
    exact hdo
  ·by_cases c:k=i
   ·subst c
    exact getD_set_true (hw j hkj)
   ·rw [getD_set_ne false (Ne.symm c)] at hk
    exact getD_set_true (hcl k j hk hkj)
  ·rw [<- q2] at hG'
   have e9:(fun k=>(listed.setIfInBounds i true).getD k false)=fun k=>if k=i then true else listed.getD k false:=by
    funext k
    by_cases c:k=i
    ·subst c
     simp [hil]
    ·rw [getD_set_ne false (Ne.symm c),if_neg c]
   rw [e9];exact hG'
  ·rw [Array.toList_setIfInBounds,List.countP_set (by simpa using hil)]
   have e:listed.toList[i]'(by simpa using hil)=false:=by simpa [hil] using hun'
   have hp:0<listed.toList.countP (fun b=>!b):=List.countP_pos_iff.2 ⟨false,by rw [<- e];exact List.getElem_mem _,rfl⟩;simp only [e,Bool.not_false,if_true,Bool.not_true]
   first | omega | (simp only [Bool.false_eq_true,not_false_eq_true,if_true,if_false];omega)
theorem Zlf {id:Nat}{ops:Array Oper}{draw:Bool}{Q:Exit->Act->World->Prop}{s s':S.St}(h:S.regionA P N call ep ops draw s=some s')(hQ:∀ a w,GamX B N w0 H0 s' a w->Q .normal a w){a:Act}{w:World}(hG:GamX B N w0 H0 s a w) :
 (Code.region id ops draw).wp P Q a w:=by
 unfold S.regionA at h
 split at h
 ·cases h
 ·rename_i es s2 hr
  cases draw with
  | false =>
   simp only [Bool.false_eq_true,if_false,Option.some.injEq] at h;subst h;exact wp_region_list (Zf5 hW hcall hr hQ a w hG)
  | true =>
   simp only [if_true] at h
   split at h
   ·rename_i hh
    obtain ⟨hm,hd,hA⟩:=hh;simp only [Option.some.injEq] at h;subst h;refine wp_region_any hm (Zp5 hW hcall hr hd hA hQ _ _ _ _ (by simp) (fun i j hi=>?_) ?_ (by simp [List.countP_replicate]))
    ·rw [getD_replicate_false] at hi;cases hi
    ·have e:S.stL (fun k=>(Y4 ops.size false).getD k false) es 0 s=s:=by
      have key:∀ (es:List (S.Eff×List Nat)) (k:Nat) (s:S.St),S.stL (fun k=>(Y4 ops.size false).getD k false) es k s=s:=by
       intro es
       induction es with
       | nil=>intro k s;rfl
       | cons p es ih =>
        obtain ⟨e1,l1⟩:=p;intro k s;rw [S.stL,getD_replicate_false,if_neg (by simp),ih]
      exact key es 0 s
     rw [e];exact hG.drew
   ·cases h
end
namespace S
inductive AEx where
 | normal
 | exit (id:Nat)
 | ret
def AEx.to_:AEx->Exit
 | .normal=>.normal
 | .exit id=>.exit id
 | .ret=>.ret
def runCode (P:Program)(N:Nat)(call:FuncId->List AV->Option (AV×Tail)):Nat->Code->Nat->St->Option (AEx×Nat×St)
 | 0,_,_,_=>none
 | n+1,c,ep,s=>match c with
  | .skip=>some (.normal,ep,s)
  | .label _=>some (.normal,ep,s)
  | .ret=>some (.ret,ep,s)
  | .exit id=>some (.exit id,ep,s)
  | .region _ ops draw=>match regionA P N call ep ops draw s with
   | some s'=>some (.normal,ep+1,s')
   | none=>none
  | .seq x y=>match runCode P N call n x ep s with
   | some (.normal,ep',s')=>runCode P N call n y ep' s'
   | some (.exit id,ep',s')=>some (.exit id,ep',s')
   | some (.ret,ep',s')=>some (.ret,ep',s')
   | none=>none
  | .cond c x y=>match (evalA c).run s with
   | some (.bool true,_)=>runCode P N call n x ep s
   | some (.bool false,_)=>runCode P N call n y ep s
   | _=>none
  | .block id b=>match runCode P N call n b ep s with
   | some (.normal,ep',s')=>some (.normal,ep',s')
   | some (.exit id',ep',s')=>if id'=id then some (.normal,ep',s') else some (.exit id',ep',s')
   | some (.ret,ep',s')=>some (.ret,ep',s')
   | none=>none
  | .scope b=>runCode P N call n b ep s
  | .loop b=>match runCode P N call n b ep s with
   | some (.normal,ep',s')=>runCode P N call n (.loop b) ep' s'
   | some (.exit id,ep',s')=>some (.exit id,ep',s')
   | some (.ret,ep',s')=>some (.ret,ep',s')
   | none=>none
  | _=>none
end S
section
variable {P:Program}{B N:Nat}{w0:World}{H0:Zp}{W:World->Prop}{call:FuncId->List S.AV->Option (S.AV×S.Tail)}(hW:∀ w,Below B w0 w->W w)(hcall:∀ f xs r y,call f xs=some (r,y)->AFn P W f xs r y)
include hW hcall
theorem Zp6:∀ (n:Nat) (c:Code) (ep ep':Nat) (s s':S.St) (ex:S.AEx),S.runCode P N call n c ep s=some (ex,ep',s')->∀ (Q:Exit->Act->World->Prop),(∀ a w,GamX B N w0 H0 s' a w->Q ex.to_ a w)->∀ a w,GamX B N w0 H0 s a w->c.wp P Q a w:=by
 intro n
 induction n using Ycv with
 | _ n ih =>
 intro c ep ep' s s' ex h Q hQ a w hG
 cases n with
 | zero=>simp [S.runCode] at h
 | succ n =>
 cases c with
 | skip =>
  simp only [S.runCode,Option.some.injEq,Prod.mk.injEq] at h;obtain ⟨rfl,_,rfl⟩:=h;exact wp_skip (hQ a w hG)
 | label l =>
  simp only [S.runCode,Option.some.injEq,Prod.mk.injEq] at h;obtain ⟨rfl,_,rfl⟩:=h;exact wp_label (hQ a w hG)
 | ret =>
  simp only [S.runCode,Option.some.injEq,Prod.mk.injEq] at h;obtain ⟨rfl,_,rfl⟩:=h;exact wp_ret (hQ a w hG)
 | exit id =>
  simp only [S.runCode,Option.some.injEq,Prod.mk.injEq] at h;obtain ⟨rfl,_,rfl⟩:=h;exact wp_exit (hQ a w hG)
 | region id ops draw =>
  simp only [S.runCode] at h
  split at h
  ·rename_i s2 hr
   simp only [Option.some.injEq,Prod.mk.injEq] at h;obtain ⟨rfl,_,rfl⟩:=h;exact Zlf hW hcall hr hQ hG
  ·cases h
 | seq x y =>
  simp only [S.runCode] at h;refine wp_seq ?_
  split at h
  ·rename_i e1 s1 hx
   exact ih n (Ya5 n) x ep _ s _ _ hx _ (fun a w hG'=>ih n (Ya5 n) y _ _ _ _ _ h Q hQ a w hG') a w hG
  ·rename_i id e1 s1 hx
   simp only [Option.some.injEq,Prod.mk.injEq] at h;obtain ⟨rfl,_,rfl⟩:=h;refine ih n (Ya5 n) x ep _ s _ _ hx _ (fun a w hG'=>?_) a w hG;exact hQ a w hG'
  ·rename_i e1 s1 hx
   simp only [Option.some.injEq,Prod.mk.injEq] at h;obtain ⟨rfl,_,rfl⟩:=h;refine ih n (Ya5 n) x ep _ s _ _ hx _ (fun a w hG'=>?_) a w hG;exact hQ a w hG'
  ·cases h
 | cond c x y =>
  simp only [S.runCode] at h;have hbool:∀ b l,(S.evalA c).run s=some (.bool b,l)->a.eval c=.bool b:=fun b l he=>by
   obtain ⟨H,φ,hG⟩:=hG;rcases Zl hG he with ⟨_,_,hq,_⟩ | hv
   ·cases hq
   ·rw [RepV] at hv;exact hv
  split at h
  ·rename_i l he
   exact wp_cond_true (hbool _ _ he) (ih n (Ya5 n) x ep _ s _ _ h Q hQ a w hG)
  ·rename_i l he
   exact wp_cond_false (hbool _ _ he) (ih n (Ya5 n) y ep _ s _ _ h Q hQ a w hG)
  ·cases h
 | block id b =>
  simp only [S.runCode] at h;refine wp_block ?_
  split at h
  ·rename_i e1 s1 hx
   simp only [Option.some.injEq,Prod.mk.injEq] at h;obtain ⟨rfl,_,rfl⟩:=h;refine ih n (Ya5 n) b ep _ s _ _ hx _ (fun a w hG'=>?_) a w hG;exact hQ a w hG'
  ·rename_i id' e1 s1 hx
   split at h
   ·rename_i hid
    simp only [Option.some.injEq,Prod.mk.injEq] at h;obtain ⟨rfl,_,rfl⟩:=h;refine ih n (Ya5 n) b ep _ s _ _ hx _ (fun a w hG'=>?_) a w hG
    show Exit.inBlock id Q (.exit id') a w
    unfold Exit.inBlock;simp only [if_pos hid];exact hQ a w hG'
   ·rename_i hid
    simp only [Option.some.injEq,Prod.mk.injEq] at h;obtain ⟨rfl,_,rfl⟩:=h;refine ih n (Ya5 n) b ep _ s _ _ hx _ (fun a w hG'=>?_) a w hG
    show Exit.inBlock id Q (.exit id') a w
    unfold Exit.inBlock;simp only [if_neg hid];exact hQ a w hG'
  ·rename_i e1 s1 hx
   simp only [Option.some.injEq,Prod.mk.injEq] at h;obtain ⟨rfl,_,rfl⟩:=h;refine ih n (Ya5 n) b ep _ s _ _ hx _ (fun a w hG'=>?_) a w hG;exact hQ a w hG'
  ·cases h
 | scope b =>
  simp only [S.runCode] at h;refine wp_scope_straight (ih n (Ya5 n) b ep _ s _ _ h _ (fun a w hG'=>?_) a w hG);have:=hQ a w hG'
  cases ex <;> exact this
 | loop b =>
  refine wp_loop_ghost (fun m a w=>m<=n+1/\∃ ep s,GamX B N w0 H0 s a w/\S.runCode P N call m (.loop b) ep s=some (ex,ep',s')) (n+1) ⟨Yf _,ep,s,hG,h⟩ ?_;rintro m a w ⟨hm,ep1,s1,hG1,h1⟩
  cases m with
  | zero=>simp [S.runCode] at h1
  | succ m =>
   simp only [S.runCode] at h1
   split at h1
   ·rename_i e2 s2 hx
    exact ih m (by omega) b ep1 _ s1 _ _ hx _ (fun a w hG'=>⟨m,Ya5 m,by omega,_,_,hG',h1⟩) a w hG1
   ·rename_i id e2 s2 hx
    simp only [Option.some.injEq,Prod.mk.injEq] at h1;obtain ⟨rfl,_,rfl⟩:=h1;refine ih m (by omega) b ep1 _ s1 _ _ hx _ (fun a w hG'=>?_) a w hG1;exact hQ a w hG'
   ·rename_i e2 s2 hx
    simp only [Option.some.injEq,Prod.mk.injEq] at h1;obtain ⟨rfl,_,rfl⟩:=h1;refine ih m (by omega) b ep1 _ s1 _ _ hx _ (fun a w hG'=>?_) a w hG1;exact hQ a w hG'
   ·cases h1
 | rangeFunc f ps x y=>simp [S.runCode] at h
 | goto l=>simp [S.runCode] at h
 | refuse w=>simp [S.runCode] at h
end
end
section
open Go.RowKit
namespace S
def resultA (P:Program)(s:St):ResultVar->Option (AV×Tail)
 | .tmp t=>match s.sl t with
  | some v=>if v.free=true then some (v,s.tl t) else none
  | none=>none
 | .cell p t=>match s.sl p with
  | some (.box i off)=>match s.hp i with
   | some (_,cs)=>match loadA P t cs off with
    | some v=>some (v,none)
    | none=>none
   | none=>none
  | _=>none
def resultsA (P:Program)(s:St):List ResultVar->Option (List AV)
 | []=>some []
 | r::rs=>match resultA P s r,resultsA P s rs with
  | some (v,_),some vs=>some (v::vs)
  | _,_=>none
def initSt (xs:List AV):St:=⟨fun t=>xs[t]?,fun _=>none,fun _=>none⟩
def bodyA (P:Program)(call:FuncId->List AV->Option (AV×Tail))(cf:Nat)(fn:Func)(c:Code)(xs:List AV):Option (AV×Tail) :=
 if xs.length<=fn.ntmps then match runCode P fn.ntmps call cf c 0 (initSt xs) with
  | some (.exit _,_,_)=>none
  | some (_,_,s)=>match fn.results.toList with
   | [r]=>resultA P s r
   | rs=>match resultsA P s rs with
    | some vs=>if vs.length=1 then none else some (.tup vs,none)
    | none=>none
  | none=>none
 else none
def runFn (P:Program)(orc:FuncId->List AV->Option (AV×Tail))(cf:Nat):Nat->FuncId->List AV->Option (AV×Tail)
 | 0,_,_=>none
 | n+1,f,xs=>match orc f xs with
  | some r=>some r
  | none=>match P.funcs[f]? with
   | some fn=>match fn.body with
    | some c=>bodyA P (runFn P orc cf n) cf fn c xs
    | none=>none
   | none=>none
end S
def Zow (tmps:Array Value):ResultVar->Sem Value
 | .tmp t=>pure (tmps.getD t undef)
 | .cell p t=>do loadVar t (← asAddr (tmps.getD p undef))
theorem Zix (fn:Func)(tmps:Array Value):results fn tmps=(do let vs ← fn.results.mapM (Zow tmps);pure (if h:vs.size=1 then vs[0] else .tuple vs)):=by
 unfold results
 congr
section
variable {P:Program}{B N:Nat}{w0:World}{H0:Zp}{s:S.St}{a:Act}{w:World}{H:Zp}{φ:Nat->Nat}
theorem Ziy (hG:Gam B N w0 H0 s a w H φ){r:ResultVar}{v:S.AV}{y:S.Tail}(h:S.resultA P s r=some (v,y)) :
 ∃ u,(Zow a.tmps r).run P w=.ok u w/\RepV H w v u/\∀ z,y=some z->TailOk H w B z v u:=by
 cases r with
 | tmp t =>
  simp only [S.resultA] at h
  split at h
  ·rename_i x hx
   split at h
   ·rename_i hf
    simp only [Option.some.injEq,Prod.mk.injEq] at h;obtain ⟨rfl,rfl⟩:=h;refine ⟨_,rfl,Zpt (hG.slot t _ hx) hf,fun z hz=>?_⟩;obtain ⟨x',hx',hok⟩:=hG.tail t z hz;rw [hx] at hx'
    cases hx'
    exact hok
   ·cases h
  ·cases h
 | cell p t =>
  simp only [S.resultA] at h
  split at h
  ·rename_i i off hx
   split at h
   ·rename_i e cs hcs
    split at h
    ·rename_i v' hv
     simp only [Option.some.injEq,Prod.mk.injEq] at h;obtain ⟨rfl,rfl⟩:=h;rcases hG.slot p _ hx with ⟨i',off',hi,hsm,hp⟩ | hr
     ·cases hi
      obtain ⟨_,_,vs,h1,h2⟩:=hG.ent i e cs hcs;obtain ⟨u,hrun,hrep⟩:=Zpu (off:=off) (q:=0) (Zgh h1) h2 hv;refine ⟨u,?_,hrep,fun z hz=>by cases hz⟩;rw [Yae] at hrun;simp only [Instr.loadAt,Instr.sureAddr,Yal,Yau,Y5] at hrun;simp only [Zow,hp,asAddr,Yal,Yau,Y5,hrun]
     ·rw [RepV] at hr;exact hr.elim
    ·cases h
   ·cases h
  ·cases h
theorem Zg5 (hG:Gam B N w0 H0 s a w H φ):∀ {rs:List ResultVar} {xs:List S.AV},S.resultsA P s rs=some xs->∃ vs,(rs.mapM (Zow a.tmps)).run P w=.ok vs w/\RepT H w xs vs
 | [],xs,h=>by
  simp only [S.resultsA,Option.some.injEq] at h;subst h;exact ⟨[],rfl,by rw [RepT]⟩
 | r::rs,xs,h=>by
  unfold S.resultsA at h
  split at h
  ·rename_i v y vs h1 h2
   cases h
   obtain ⟨u,hu,hrep,_⟩:=Ziy hG h1;obtain ⟨us,hus,hreps⟩:=Zg5 hG h2;refine ⟨u::us,?_,by rw [RepT];exact ⟨u,us,rfl,hrep,hreps⟩⟩;rw [Ydz];simp only [Yal,hu,Y5,hus,Yau]
  ·cases h
theorem Zu8 {fn:Func}{xs:List S.AV}{vs:List Value}(hn:xs.length<=fn.ntmps)(hb:∀ b k,H b=some k->b<w.heap.size)(hr:RepT H w xs vs) :
 Gam w.heap.size fn.ntmps w H (S.initSt xs) { tmps:=vs.toArray++Y4 (fn.ntmps-vs.toArray.size) undef,defers:=[] } w H (fun _=>0):=by
 have hl:=RepT.length hr;refine ⟨Below.refl _ _,Yf _,fun _ _=>rfl,hb,by simp;omega,rfl,fun t x hx=>.inr ?_,fun i e cs hi=>by simp [S.initSt] at hi,fun i j hi=>by simp [S.initSt] at hi,fun t y hy=>by simp [S.initSt] at hy,fun t t' _ ht=>by simp [S.initSt] at ht⟩;obtain ⟨v,hv,hrep⟩:=RepT.at_ hr (show xs[t]?=some x from hx);have e:({ tmps:=vs.toArray++Y4 (fn.ntmps-vs.toArray.size) undef,defers:=[] }:Act).tmps.getD t undef=v:=by
  have hlt:=(Ye.1 hv).1;simp only [Array.getD_eq_getD_getElem?];rw [Array.getElem?_append_left (by simpa using hlt)];simp [hv]
 rw [e];exact hrep
theorem Zp7 {W:World->Prop}(hWs:∀ w w',W w->Below w.heap.size w w'->W w'){call:FuncId->List S.AV->Option (S.AV×S.Tail)}(hcall:∀ f xs r y,call f xs=some (r,y)->AFn P W f xs r y){cf:Nat}{f:FuncId}{fn:Func}{c:Code}
 (hf:P.funcs[f]?=some fn) (hc:fn.body=some c) {xs:List S.AV} {r:S.AV} {y:S.Tail} (h:S.bodyA P call cf fn c xs=some (r,y)):AFn P W f xs r y:=by
 intro H w vs hbnd hWw hrep;unfold S.bodyA at h
 split at h
 ·rename_i hn
  refine calls_of_wp hf hc ?_;have hG:=Zu8 (fn:=fn) hn hbnd hrep;have fin:∀ (s:S.St) (a:Act) (w':World),GamX w.heap.size fn.ntmps w H s a w'->(match fn.results.toList with | [q]=>S.resultA P s q | rs=>match S.resultsA P s rs with | some us=>if us.length=1 then none else some (.tup us,none) | none=>none)=some (r,y) ->
   a.defers=[]/\∃ v,(results fn a.tmps).run P w'=.ok v w'/\∃ v' H',Ending.returned v=.returned v'/\Below w.heap.size w w'/\(∀ b,b<w.heap.size->H' b=H b)/\(∀ b k,H' b=some k->b<w'.heap.size)/\RepV H' w' r v'/\∀ z,y=some z->TailOk H' w' w.heap.size z r v':=by
   rintro s a w' ⟨H',φ,hG'⟩ hres;refine ⟨hG'.defs,?_⟩
   split at hres
   ·rename_i q hq
    obtain ⟨u,hu,hr,ht⟩:=Ziy hG' hres;have e:fn.results=#[q]:=by rw [<- Array.toArray_toList (xs:=fn.results),hq]
    refine ⟨u,?_,u,H',rfl,hG'.bel,hG'.old,hG'.bnd,hr,ht⟩;rw [Zix,Yal,Ydo,hq,Ydz,List.mapM_nil];simp only [Yal,Sem.run_map,hu,Y5,Yau];rfl
   ·rename_i hne
    split at hres
    ·rename_i us hus
     split at hres
     ·cases hres
     ·rename_i h1
      simp only [Option.some.injEq,Prod.mk.injEq] at hres;obtain ⟨rfl,rfl⟩:=hres;obtain ⟨ws,hws,hT⟩:=Zg5 hG' hus;have hl:=RepT.length hT;refine ⟨.tuple ws.toArray,?_,_,H',rfl,hG'.bel,hG'.old,hG'.bnd,by rw [RepV];exact ⟨ws,rfl,hT⟩,fun z hz=>by cases hz⟩;rw [Zix,Yal,Ydo];simp only [Sem.run_map,hws,Y5,Yau];rw [dif_neg];rw [List.size_toArray,hl];exact h1
    ·cases hres
  split at h
  ·cases h
  ·rename_i ex ep s hne hcode
   refine Zp6 (W:=W) (fun w' hb=>hWs w w' hWw hb) hcall cf c 0 ep _ s ex hcode _ (fun a w' hG'=>?_) _ w ⟨H,_,hG⟩;have:=fin s a w' hG' h
   cases ex with
   | normal=>exact this
   | ret=>exact this
   | exit id=>exact (hne _ rfl).elim
  ·cases h
 ·cases h
theorem Zox {W:World->Prop}(hWs:∀ w w',W w->Below w.heap.size w w'->W w'){orc:FuncId->List S.AV->Option (S.AV×S.Tail)}(horc:∀ f xs r y,orc f xs=some (r,y)->AFn P W f xs r y){cf:Nat} :
 ∀ (n:Nat) (f:FuncId) (xs:List S.AV) (r:S.AV) (y:S.Tail),S.runFn P orc cf n f xs=some (r,y)->AFn P W f xs r y
 | 0,f,xs,r,y,h=>by simp [S.runFn] at h
 | n+1,f,xs,r,y,h=>by
  unfold S.runFn at h
  split at h
  ·rename_i q hq
   cases h
   exact horc f xs r y hq
  ·split at h
   ·rename_i fn hf
    split at h
    ·rename_i c hc
     exact Zp7 hWs (fun f xs r y h=>Zox hWs horc n f xs r y h) hf hc h
    ·cases h
   ·cases h
end
end
section
open Go.RowKit
theorem Zrx (x:Int)(h0:0<=x)(h1:x<=4294967295):bits .and .i64 x 65535=x%65536:=by
 have h:(BitVec.ofInt 64 x &&& BitVec.ofInt 64 65535).toNat=(x%65536).toNat:=by
  rw [BitVec.toNat_and];have h1:(BitVec.ofInt 64 65535).toNat=2^16-1:=by decide
  rw [h1,Nat.and_two_pow_sub_one_eq_mod,BitVec.toNat_ofInt];omega
 show IntKind.i64.wrap ((BitVec.ofInt 64 x &&& BitVec.ofInt 64 65535).toNat:Int)=_
 rw [h,IntKind.wrap_i64];omega
structure HOk (h:CH):Prop where
 fr0:0<=h.fr
 fr1:h.fr<=1000
 l0:0<=h.r.locals
 l1:h.r.locals<=200
section
variable {base p:Nat}{h:CH}{xs:List S.Item}{lab:Int}{w:World}(H:CAt base p h xs lab w)(hbw:base<=w.heap.size)
include H
theorem CAt.cell_fr:w.cell? ⟨p,5,none⟩=some (.int .i64 h.fr):=by
 obtain ⟨_,v,hk,_⟩:=H;rw [Yb hk];rfl
theorem CAt.cell_loc:w.cell? ⟨p,2,none⟩=some (.int .i64 h.r.locals):=by
 obtain ⟨_,v,hk,_⟩:=H;rw [Yb hk];rfl
theorem CAt.cell_bh:w.cell? ⟨p,3,none⟩=some (.bool h.r.behind):=by
 obtain ⟨_,v,hk,_⟩:=H;rw [Yb hk];rfl
theorem CAt.cell_lab:w.cell? ⟨p,7,none⟩=some (.int .i64 lab):=by
 obtain ⟨_,v,hk,_⟩:=H;rw [Yb hk];rfl
theorem Zx0 (hO:HOk h)(k:Nat)(hk:k<=1000000):Calls Tryz.prog 224 #[.pointer (some ⟨p,0,none⟩),.int .i64 (k:Int)] w fun e w'=>e=.returned (.int .i64 (1+h.r.locals+k))/\w'=w:=by
 have c2:=H.cell_loc;obtain ⟨_,_,l0,l1⟩:=hO;generalize h.r.locals=L at *;clear H;go_enter Tryz.func224,Tryz.ntmps224
 go_wp2_with fail
 go_ret
 exact ⟨rfl,rfl⟩
include hbw
theorem Zlg (hl:xs.length<=100000000)(d a:Int):Calls Tryz.prog 190 #[.pointer (some ⟨p,0,none⟩),.int .i64 d,.int .i64 a] w (Zgj base p h xs [S.bMove d a] lab w):=by
 have Hc:=Ya (Zbb H hbw hl 15 d a 0 0);clear H;go_enter Tryz.func190,Tryz.ntmps190
 go_wp2_with fail
 refine Hc.out.mono ?_;rintro e w2 ⟨rfl,h1,h2⟩;go_wp2_with fail
 go_end0
 exact ⟨rfl,h1,h2⟩
theorem Zry (hl:xs.length<=100000000)(hO:HOk h)(d pl:Int)(hpl:-1000000000<=pl/\pl<=1000000000):Calls Tryz.prog 211 #[.pointer (some ⟨p,0,none⟩),.int .i64 d,.int .i64 pl] w (Zgj base p h xs [S.bLoad h.fr d pl] lab w):=by
 have Hc:=Ya (Zbb H hbw hl 24 d 28 0 (pl-h.fr));have c5:=H.cell_fr;obtain ⟨f0,f1,_,_⟩:=hO;unfold S.bLoad;obtain ⟨fr,hfr⟩:=Yx h.fr;rw [<- hfr] at c5 Hc f0 f1 ⊢;clear H hfr;go_enter Tryz.func211,Tryz.ntmps211
 go_wp2_with fail
 refine Hc.out.mono ?_;rintro e w2 ⟨rfl,h1,h2⟩;go_wp2_with fail
 go_end0
 exact ⟨rfl,h1,h2⟩
theorem Zrz (hl:xs.length<=100000000)(hO:HOk h)(d pl:Int)(hpl:-1000000000<=pl/\pl<=1000000000):Calls Tryz.prog 188 #[.pointer (some ⟨p,0,none⟩),.int .i64 d,.int .i64 pl] w (Zgj base p h xs [S.bStore h.fr d pl] lab w):=by
 have Hc:=Ya (Zbb H hbw hl 25 0 28 d (pl-h.fr));have c5:=H.cell_fr;obtain ⟨f0,f1,_,_⟩:=hO;unfold S.bStore;obtain ⟨fr,hfr⟩:=Yx h.fr;rw [<- hfr] at c5 Hc f0 f1 ⊢;clear H hfr;go_enter Tryz.func188,Tryz.ntmps188
 go_wp2_with fail
 refine Hc.out.mono ?_;rintro e w2 ⟨rfl,h1,h2⟩;go_wp2_with fail
 go_end0
 exact ⟨rfl,h1,h2⟩
theorem Zx1 (hl:xs.length<=100000000)(hO:HOk h):Calls Tryz.prog 191 #[.pointer (some ⟨p,0,none⟩)] w (Zgj base p h xs [S.bPop h.fr] lab w):=by
 have Hc:=Ya (Zbb H hbw hl 15 28 28 0 (-h.fr));have c5:=H.cell_fr;obtain ⟨f0,f1,_,_⟩:=hO;unfold S.bPop;obtain ⟨fr,hfr⟩:=Yx h.fr;rw [<- hfr] at c5 Hc f0 f1 ⊢;clear H hfr;go_enter Tryz.func191,Tryz.ntmps191
 go_wp2_with fail
 refine Hc.out.mono ?_;rintro e w2 ⟨rfl,h1,h2⟩;go_wp2_with fail
 go_end0
 exact ⟨rfl,h1,h2⟩
theorem Ziz (hl:xs.length+1<=100000000)(d n:Int)(hn:-2147483648<=n/\n<=4294967295):Calls Tryz.prog 210 #[.pointer (some ⟨p,0,none⟩),.int .i64 d,.int .i64 n] w (Zgj base p h xs (S.bConst d n) lab w):=by
 have Hi:=Ya (fun (ys:List S.Item) (W:World) (hy:ys.length<=1) (hc:CAt base p h (xs++ys) lab W) (hk:CK base w W) (op d a b imm:Int)=>Zbb hc (by have:=hk.size;omega) (by simp only [Yc];omega) op d a b imm);have Hc0:=Ya H;clear H;unfold S.bConst;by_cases h1:-32768<=n
 ·by_cases h2:n<32768
  ·rw [if_pos ⟨h1,h2⟩]
   go_enter Tryz.func210,Tryz.ntmps210
   go_wp2_with fail
   refine (Hi.out [] w (by simp) (by simpa using Hc0.out) (CK.refl _ _) 15 d 0 0 n).mono ?_;rintro e w2 ⟨rfl,h3,h4⟩;go_wp2_with fail
   go_end0
   exact ⟨rfl,by simpa using h3,h4⟩
  ·rw [if_neg (by omega)]
   go_enter Tryz.func210,Tryz.ntmps210
   go_wp2_with fail
   refine (Hi.out [] w (by simp) (by simpa using Hc0.out) (CK.refl _ _) 23 d 0 0 (n/65536)).mono ?_;rintro e w2 ⟨rfl,h3,h4⟩;go_wp2_with fail
   rw [Zrx n (by omega) (by omega)];refine (Hi.out [S.bI 23 d 0 0 (n/65536)] w2 (by simp) (by simpa using h3) h4 17 d d 0 (n%65536)).mono ?_;rintro e w3 ⟨rfl,h5,h6⟩;go_wp2_with fail
   go_end0
   have e1:n%4294967296=n:=by omega
   exact ⟨rfl,by rw [e1];simpa using h5,h4.trans h6⟩
 ·rw [if_neg (by omega)]
  go_enter Tryz.func210,Tryz.ntmps210
  go_wp2_with fail
  refine (Hi.out [] w (by simp) (by simpa using Hc0.out) (CK.refl _ _) 23 d 0 0 (n%4294967296/65536)).mono ?_;rintro e w2 ⟨rfl,h3,h4⟩;go_wp2_with fail
  rw [Zrx (n%4294967296) (by omega) (by omega)];refine (Hi.out [S.bI 23 d 0 0 (n%4294967296/65536)] w2 (by simp) (by simpa using h3) h4 17 d d 0 (n%4294967296%65536)).mono ?_;rintro e w3 ⟨rfl,h5,h6⟩;go_wp2_with fail
  go_end0
  exact ⟨rfl,by simpa using h5,h4.trans h6⟩
theorem Zw3 (hl:xs.length+6<=100000000)(hO:HOk h):Calls Tryz.prog 159 #[.pointer (some ⟨p,0,none⟩)] w (Zgj base p h xs (S.bBack h.fr h.r.behind) lab w):=by
 have Hi:=Ya (fun (ys:List S.Item) (W:World) (hy:ys.length<=6) (hc:CAt base p h (xs++ys) lab W) (hk:CK base w W) (op d a b imm:Int)=>Zbb hc (by have:=hk.size;omega) (by simp only [Yc];omega) op d a b imm);have Hp:=Ya (Zx1 H hbw (by omega) hO);have Hb:=Ya (fun (ys:List S.Item) (W:World) (hc:CAt base p h (xs++ys) lab W)=>hc.cell_bh);clear H;obtain ⟨ys,hys⟩:=Yx (S.bBack h.fr h.r.behind);rw [<- hys];unfold S.bBack at hys;have Hys:=Ya hys;clear hys;obtain ⟨bh,hbh⟩:=Yx h.r.behind;rw [<- hbh] at Hb Hys;clear hbh;go_enter Tryz.func159,Tryz.ntmps159
 go_wp2_with fail
 refine Hp.out.mono ?_;rintro e w2 ⟨rfl,h1,k1⟩;go_wp2_with fail
 refine (Hi.out [S.bPop h.fr] w2 (by simp) h1 k1 24 31 28 0 0).mono ?_;rintro e w3 ⟨rfl,h2,k2⟩;rw [Ym] at h2;have k3:=k1.trans k2;have c3:=Hb.out _ _ h2
 cases bh with
 | false =>
  go_wp2_with fail
  refine (Hi.out _ w3 (by simp) h2 k3 33 0 31 0 0).mono ?_;rintro e w4 ⟨rfl,h4,k4⟩;go_wp2_with fail
  go_end0
  exact ⟨rfl,by rw [Hys.out];simpa using h4,k3.trans k4⟩
 | true =>
  go_wp2_with fail
  refine (Hi.out _ w3 (by simp) h2 k3 24 25 31 0 0).mono ?_;rintro e w4 ⟨rfl,h4,k4⟩;rw [Ym] at h4;go_wp2_with fail
  refine (Hi.out _ w4 (by simp) h4 (k3.trans k4) 1 31 31 25 0).mono ?_;rintro e w5 ⟨rfl,h5,k5⟩;rw [Ym] at h5;go_wp2_with fail
  refine (Hi.out _ w5 (by simp) h5 ((k3.trans k4).trans k5) 33 0 31 0 1).mono ?_;rintro e w6 ⟨rfl,h6,k6⟩;go_wp2_with fail
  go_end0
  exact ⟨rfl,by rw [Hys.out];simpa using h6,((k3.trans k4).trans k5).trans k6⟩
theorem Zjw (h3:3<=base)(hL:LVE w)(hlab:0<=lab/\lab<=1000000000):Calls Tryz.prog 208 #[.pointer (some ⟨p,0,none⟩)] w fun e w'=>e=.returned (.string (S.bLab (lab+1)))/\CAt base p h xs (lab+1) w'/\CK base w w':=by
 have Hbl:=Ya (show S.bLab (lab+1)=⟨(46::S.itoa (lab+1)).toArray⟩ from rfl);have Hlen:=Ya (Zu0 (lab+1));have Hit:=Ya (fun W (hL:LVE W)=>Zw1 (lab+1) ⟨by omega,by omega⟩ W hL);generalize S.bLab (lab+1)=R at *;generalize S.itoa (lab+1)=I at *;have c7:=H.cell_lab;have hlt:=H.lt;obtain ⟨hlow,v,hk,ho⟩:=H;have f7:w.frozen? ⟨p,7,none⟩=false:=Lib.frozen_of_heap hk 7;have hne:=Zx ho hk (by decide);have hS:(w.setCell ⟨p,7,none⟩ (.int .i64 (lab+1))).heap[p]?=some (.cells (Zf9 h v (lab+1)) 183):=by
  rw [setCell_eq_setRow _ _ _ _ _ _ _ hk];exact setRow_heap _ _ _ _ _ _ hk
 have hb7:Below base w (w.setCell ⟨p,7,none⟩ (.int .i64 (lab+1))):=(Below.refl _ _).setCell (p:=⟨p,7,none⟩) hlow _;have ho7:=ho.kept (w':=w.setCell ⟨p,7,none⟩ (.int .i64 (lab+1))) (row:=some p) ⟨rfl,rfl,rfl,by simp [World.setCell],fun k _ hk=>Below.heap_setCell _ _ _ _ (fun e=>hk (by simp [e]))⟩ (Or.inr hne);have hat:CAt base p h xs (lab+1) (w.setCell ⟨p,7,none⟩ (.int .i64 (lab+1))):=⟨hlow,v,hS,ho7⟩
 have hck:CK base w (w.setCell ⟨p,7,none⟩ (.int .i64 (lab+1))):=⟨hb7,fun k r T o hr h1 h2=>by
  have hkp:k≠p:=by
   rintro rfl;rw [hk] at hr;simp only [Option.some.injEq,Obj.cells.injEq] at hr;exact h2 hr.2.1.symm
  rw [Below.heap_setCell _ _ _ _ hkp];exact hr⟩
 have Hat:=Ya hat;have Hck:=Ya hck;have HL:=Ya (hL.keep hb7 h3);have g7:(w.setCell ⟨p,7,none⟩ (.int .i64 (lab+1))).cell? ⟨p,7,none⟩=some (.int .i64 (lab+1)):=by rw [Yb hS];rfl
 have hsz:base<=(w.setCell ⟨p,7,none⟩ (.int .i64 (lab+1))).heap.size:=by have:=hck.size;omega
 clear hat hck hb7 ho7 hS hk ho hL;go_enter Tryz.func208,Tryz.ntmps208
 go_upto_region 2 with fail
 generalize w.setCell ⟨p,7,none⟩ (.int .i64 (lab+1))=w2 at *;clear c7 f7;go_wp2_with fail
 refine (Hit.out w2 HL.out).mono ?_;rintro e w3 ⟨rfl,hb3⟩;have Hr:=Ya (Zxu [46] I);have Hat3:=Ya (Hat.out.keep hb3);have Hck3:=Ya (Hck.out.trans (CK.of hb3 hsz));have hlen:=Hlen.out;clear HL hb3;go_wp2_with fail
 go_ret
 exact ⟨Zxv (by rw [Hbl.out];exact Hr.out),Hat3.out,Hck3.out⟩
end
end
section
open Go.RowKit
theorem Zda (fr L:Int):∀ k,(S.bStores fr L k).length=k
 | 0=>rfl
 | k+1=>by rw [S.bStores,Yc,Zda fr L k];rfl
theorem Zfs (fr L:Int):∀ k,(S.bLoads fr L k).length=k
 | 0=>rfl
 | k+1=>by rw [S.bLoads,Yc,Zfs fr L k];rfl
theorem Zd0 (at_:Nat):∀ k,(S.bArgs at_ k).length=k
 | 0=>rfl
 | k+1=>by rw [S.bArgs,Yc,Zd0 at_ k];rfl
theorem Zzj {base p:Nat}{h:CH}{xs:List S.Item}{lab:Int}{w:World}(H:CAt base p h xs lab w)(hbw:base<=w.heap.size)(hO:HOk h)(op n:Int)(nm:ByteArray)(A:Option Addr)(N c at_:Nat)(hN:N<=1000000)(hat:at_<=1000000)
 (hl:xs.length+(S.bCall h.fr h.r.locals nm N at_).length<=100000000) :
 Calls Tryz.prog 212 #[.pointer (some ⟨p,0,none⟩),.agg #[.int .i64 op,.int .i64 n,.string nm,.slice A N c],.int .i64 (at_:Int)] w (Zgj base p h xs (S.bCall h.fr h.r.locals nm N at_) lab w):=by
 have hbX:Below w.heap.size w (w.alloc (.cells #[.int .i64 op,.int .i64 n,.string nm,.slice A N c] 95)):=(Below.refl _ _).alloc (Yf _) _;have hrX:=heap_alloc_new w (.cells #[.int .i64 op,.int .i64 n,.string nm,.slice A N c] 95);have hzX:w.heap.size<(w.alloc (.cells #[.int .i64 op,.int .i64 n,.string nm,.slice A N c] 95)).heap.size:=by simp
 have HbX:=Ya (CK.of hbX hbw);have H2:=H.keep hbX;obtain ⟨ys,hys⟩:=Yx (S.bCall h.fr h.r.locals nm N at_);rw [<- hys] at hl ⊢;unfold S.bCall at hys;have hlen:ys.length=at_+N+1+at_+1:=by
  rw [hys];simp only [Yc,Zda,Zfs,Zd0,Yl,Yat]
 rw [hlen] at hl;have Hys:=Ya hys;have hL0:=hO.l0;have hL1:=hO.l1;have HO:=Ya hO;have Hsav:=Ya (fun (zs:List S.Item) (W:World) (hc:CAt base p h zs lab W) (k:Nat) (hk:k<=1000000)=>Zx0 hc hO k hk);have Hsto:=Ya (fun (zs:List S.Item) (W:World) (hc:CAt base p h zs lab W) (hb:base<=W.heap.size) (hz:zs.length<=100000000) (d pl:Int) (hpl:-1000000000<=pl/\pl<=1000000000)=>Zrz hc hb hz hO d pl hpl);have Hloa:=Ya (fun (zs:List S.Item) (W:World) (hc:CAt base p h zs lab W) (hb:base<=W.heap.size) (hz:zs.length<=100000000) (d pl:Int) (hpl:-1000000000<=pl/\pl<=1000000000)=>Zry hc hb hz hO d pl hpl);obtain ⟨L,hL⟩:=Yx h.r.locals;rw [<- hL] at hL0 hL1 Hys Hsav;have HL:=Ya hL;clear hys H hO hL hlen;go_enter Tryz.func212,Tryz.ntmps212
 go_upto_region 1 with fail
 have HRX:=Ya hrX;have H2':=Ya H2;clear hbX hrX H2;generalize w.alloc (.cells #[.int .i64 op,.int .i64 n,.string nm,.slice A N c] 95)=w2 at *;go_wp2_with fail
 go_loopw [10] (fun v10 wr=>∃ k:Nat,k<=at_/\v10=.int .i64 k/\Hid (CAt base p h (xs++S.bStores h.fr L k) lab wr)/\Hid (CK base w2 wr)) (fun v10 _=>at_-(intOf v10).toNat)
 case atStart=>exact ⟨0,by omega,rfl,Ya (by simpa [S.bStores] using H2'.out),Ya (CK.refl _ _)⟩
 case round =>
  obtain ⟨k,hk,rfl,HC,HK⟩:=hrel;obtain ⟨wo,hwo⟩:=Yx wr;subst hwo;by_cases hlt:k<at_
  ·have Hs1:=Ya (Hsav.out _ _ HC.out k (by omega))
   have Hs2:=Ya (Hsto.out _ _ HC.out (by have:=HK.out.size;have:=HbX.out.size;omega) (by rw [Yc,Zda];omega) (11+(k:Int)) (1+L+(k:Int)) (by omega));go_wp2_with fail
   refine Hs1.out.mono ?_;rintro e w3 ⟨rfl,rfl⟩;go_wp2_with fail
   refine Hs2.out.mono ?_;rintro e w4 ⟨rfl,h3,h4⟩;go_wp2_with fail
   go_roundw
   case rel=>exact ⟨k+1,by omega,by go_num,Ya (by rw [S.bStores,<- Ym];exact h3),Ya (HK.out.trans h4)⟩
   case measure=>simp [intOf];omega
  ·have hkN:at_=k:=by omega
   subst hkN;have Hrow:=Ya (HK.out.keep w.heap.size _ _ _ HRX.out (by decide) (by decide));have q3:wo.cell? ⟨w.heap.size,3,none⟩=some (.slice A N c):=by rw [Yb Hrow.out];rfl
   go_wp2_with fail
   have HstL:=Ya (Zda h.fr L at_);generalize S.bStores h.fr L at_=st at *;go_loopw [24] (fun v24 wr=>∃ k:Nat,k<=N/\v24=.int .i64 k/\Hid (CAt base p h (xs++st++S.bArgs at_ k) lab wr)/\Hid (CK base wo wr)) (fun v24 _=>N-(intOf v24).toNat)
   case atStart=>exact ⟨0,by omega,rfl,Ya (by simpa [S.bArgs] using HC.out),Ya (CK.refl _ _)⟩
   case round =>
    obtain ⟨k,hk,rfl,HC2,HK2⟩:=hrel;obtain ⟨wo2,hwo2⟩:=Yx wr;subst hwo2;have hs2:base<=wo2.heap.size:=by have:=HK2.out.size;have:=HK.out.size;have:=HbX.out.size;omega
    by_cases hlt:k<N
    ·have Hs1:=Ya (Zlg HC2.out hs2 (by rw [Yc,Yc,Zd0,HstL.out];omega) (4+(k:Int)) (11+(at_:Int)+(k:Int)))
     go_wp2_with fail
     refine Hs1.out.mono ?_;rintro e w4 ⟨rfl,h3,h4⟩;go_wp2_with fail
     go_roundw
     case rel=>exact ⟨k+1,by omega,by go_num,Ya (by rw [S.bArgs,<- Ym];exact h3),Ya (HK2.out.trans h4)⟩
     case measure=>simp [intOf];omega
    ·have hkN:N=k:=by omega
     subst hkN;have Hrow2:=Ya (HK2.out.keep w.heap.size _ _ _ Hrow.out (by decide) (by decide));have q2:wo2.cell? ⟨w.heap.size,2,none⟩=some (.string nm):=by rw [Yb Hrow2.out];rfl
     have Hj:=Ya (Zpf HC2.out hs2 (by rw [Yc,Yc,Zd0,HstL.out];omega) 31 nm);go_wp2_with fail
     refine Hj.out.mono ?_;rintro e w5 ⟨rfl,h5,h6⟩;go_wp2_with fail
     have HarL:=Ya (Zd0 at_ N);generalize S.bArgs at_ N=ar at *;go_loopw [41] (fun v41 wr=>∃ k:Nat,k<=at_/\v41=.int .i64 k/\Hid (CAt base p h (xs++st++ar++[S.bJ 31 nm]++S.bLoads h.fr L k) lab wr)/\Hid (CK base w5 wr)) (fun v41 _=>at_-(intOf v41).toNat)
     case atStart=>exact ⟨0,by omega,rfl,Ya (by simpa [S.bLoads] using h5),Ya (CK.refl _ _)⟩
     case round =>
      obtain ⟨k,hk,rfl,HC3,HK3⟩:=hrel;obtain ⟨wo3,hwo3⟩:=Yx wr;subst hwo3;have hs3:base<=wo3.heap.size:=by have:=HK3.out.size;have:=h6.size;omega
      have hl3:(xs++st++ar++[S.bJ 31 nm]++S.bLoads h.fr L k).length=xs.length+at_+N+1+k:=by simp only [Yc,HarL.out,HstL.out,Zfs,Yl,Yat]
      by_cases hlt:k<at_
      ·have Hs1:=Ya (Hsav.out _ _ HC3.out k (by omega))
       have Hs2:=Ya (Hloa.out _ _ HC3.out hs3 (by rw [hl3];omega) (11+(k:Int)) (1+L+(k:Int)) (by omega));clear hl3;go_wp2_with fail
       refine Hs1.out.mono ?_;rintro e w3 ⟨rfl,rfl⟩;go_wp2_with fail
       refine Hs2.out.mono ?_;rintro e w4 ⟨rfl,h3,h4⟩;go_wp2_with fail
       go_roundw
       case rel=>exact ⟨k+1,by omega,by go_num,Ya (by rw [S.bLoads,<- Ym];exact h3),Ya (HK3.out.trans h4)⟩
       case measure=>simp [intOf];omega
      ·have hkN:at_=k:=by omega
       subst hkN;have Hs1:=Ya (Zlg HC3.out hs3 (by rw [hl3];omega) (11+(at_:Int)) 4);clear hl3;go_wp2_with fail
       refine Hs1.out.mono ?_;rintro e w4 ⟨rfl,h3,h4⟩;go_wp2_with fail
       go_end0
       refine ⟨rfl,?_,HbX.out.trans (HK.out.trans (HK2.out.trans (h6.trans (HK3.out.trans h4))))⟩;rw [Hys.out]
       simpa [Ym] using h3
end
end Go.Proofs.YtdeepoikgfaecaaGreatDoor
