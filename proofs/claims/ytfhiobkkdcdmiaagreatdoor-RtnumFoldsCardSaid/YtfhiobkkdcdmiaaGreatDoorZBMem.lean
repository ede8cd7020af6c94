/- Parts. -/
import Derived.Test.YtfhiobkkdcdmiaaGreatDoorZQg
import Derived.Scope
set_option linter.all false
open Nat renaming le_refl->Yb,lt_of_lt_of_le->Yy,zero_add->Y9,lt_succ_self->Yam,strongRecOn->Yde
open List renaming getElem?_eq_some_iff->Yg,length_cons->Yi,mem_cons->Yz,getElem?_cons_zero->Ya0,mapM_cons->Ydr
open Array renaming getElem?_eq_some_iff->Yv,replicate->Yb3,mapM_eq_mapM_toList->Ydl
open Go.Result renaming andThen_ok->Y4
open Go.Sem renaming run_bind->Yai,run_pure->Yas
open Go.Region renaming ready->Ybg,waitsFor->Ybp,binds->Yb1
namespace Go.Proofs.YtfhiobkkdcdmiaaGreatDoor
open Go.RowKit
section
namespace S
def runOps (P:Program)(N:Nat)(call:FuncId->List AV->Option (AV×Tail))(ops:Array Oper)(ep:Nat):List Oper->Nat->St->Option (List (Eff×List Nat)×St)
 | [],_,s=>some ([],s)
 | o::r,i,s=>match (effOp P N call ops (1000*ep+i) o).run s with
  | none=>none
  | some (e,l)=>match runOps P N call ops ep r (i+1) (e.apply s) with
   | none=>none
   | some (es,s')=>some ((e,l)::es,s')
def depsOk:List Oper->Nat->Bool
 | [],_=>true
 | o::r,i=>o.after.toList.all (λ e=>!Yb1 .any e || Nat.blt e.on i) && depsOk r (i+1)
def regionA (P:Program)(N:Nat)(call:FuncId->List AV->Option (AV×Tail))(ep:Nat)(ops:Array Oper)(draw:Bool)(s:St):Option St:=match runOps P N call ops ep ops.toList 0 s with
 | none=>none
 | some (es,s')=>if draw=true then(if P.follows .mixedOrders=true/\depsOk ops.toList 0=true/\apartB es (befs ops.toList []) 0=true then some s' else none) else some s'
end S
section
variable {P:Program}{B N:Nat}{w0:World}{H0:Zx}{W:World->Prop}{call:FuncId->List S.AV->Option (S.AV×S.Tail)}{ep:Nat}
theorem Zh9 {oa:Array Oper}:∀{ops:List Oper} {i:Nat} {s s':S.St} {es:List (S.Eff×List Nat)},S.runOps P N call oa ep ops i s=some (es,s') ->
 es.length=ops.length/\s'=S.stL (λ _=>true) es i s/\∀k o,ops[k]?=some o->∃e l,es[k]?=some (e,l)/\(S.effOp P N call oa (1000*ep+(i+k)) o).run (S.stL (λ j=>decide (j<i+k)) es i s)=some (e,l)
 | [],i,s,s',es,h=>by
  simp only[S.runOps,Option.some.injEq,Prod.mk.injEq] at h;obtain⟨rfl,rfl⟩:=h;exact⟨rfl,rfl,λ k o hk=>by simp at hk⟩
 | o::r,i,s,s',es,h=>by
  unfold S.runOps at h
  split at h
  .cases h
  .rename_i e l he
   split at h
   .cases h
   .rename_i es' s2 hr
    simp only[Option.some.injEq,Prod.mk.injEq] at h;obtain⟨rfl,rfl⟩:=h;obtain⟨h1,h2,h3⟩:=Zh9 hr;refine⟨by rw[Yi,Yi,h1],by rw[S.stL,if_pos rfl];exact h2,λ k o' hk=>?_⟩
    cases k with
    | zero =>
     simp at hk;subst hk;refine⟨e,l,rfl,?_⟩;have e0:S.stL (λ j=>decide (j<i+0)) ((e,l)::es') i s=s:=by
      have key:∀(es:List (S.Eff×List Nat)) (k:Nat) (s:S.St),i<=k->S.stL (λ j=>decide (j<i+0)) es k s=s:=by
       intro es
       induction es with
       | nil=>intro k s _;rfl
       | cons p es ih =>
        obtain⟨e1,l1⟩:=p;intro k s hk;rw[S.stL,if_neg (by simp;omega),ih (k+1) s (by omega)]
      exact key _ i s (Yb _)
     rw[e0];exact he
    | succ k =>
     obtain⟨e',l',h4,h5⟩:=h3 k o' (by simpa using hk);refine⟨e',l',by simpa using h4,?_⟩;rw[S.stL,if_pos (by simp),show i+(k+1)=i+1+k by omega];exact h5
theorem GamX.drew {s:S.St}{a:Act}{w:World}(h:GamX B N w0 H0 s a w):GamX B N w0 H0 s a w.drew:=by
 obtain⟨H,φ,h⟩:=h;refine⟨H,φ,⟨⟨h.bel.os,h.bel.tape,h.bel.output,h.bel.size,h.bel.block⟩,h.base,h.old,h.bnd,h.size,h.defs,λ t x hx=>?_,λ i e cs hi=>?_,h.inj,λ t y hy=>?_,h.tinj⟩⟩
 .have hst:Stay H w H w.drew:=λ b k e=>⟨k,e,Yb _,λ _ _=>rfl⟩
  rcases h.slot t x hx with hb|hr
  .exact .inl hb
  .exact .inr (RepV.stay hst _ _ hr)
 .have hst:Stay H w H w.drew:=λ b k e=>⟨k,e,Yb _,λ _ _=>rfl⟩
  obtain⟨h1,h2,vs,h3,h4⟩:=h.ent i e cs hi;exact⟨h1,h2,vs,h3,RepL.stay hst _ _ h4⟩
 .obtain⟨x,hx,hok⟩:=h.tail t y hy
  exact⟨x,hx,hok.keep λ _ _=>⟨rfl,rfl⟩⟩
variable (hW:∀w,Below B w0 w->W w)(hcall:∀f xs r y,call f xs=some (r,y)->AFn P W f xs r y)
include hW hcall
theorem Zzr {s:S.St}{a:Act}{w:World}(h:GamX B N w0 H0 s a w):W w:=by
 obtain⟨H,φ,h⟩:=h;exact hW w h.bel
theorem Zg7 {ops:Array Oper}{Q:Exit->Act->World->Prop}:∀{l:List Oper} {i:Nat} {s s':S.St} {es:List (S.Eff×List Nat)},S.runOps P N call ops ep l i s=some (es,s')->(∀a w,GamX B N w0 H0 s' a w->Q .normal a w)->∀a w,GamX B N w0 H0 s a w->wpList P ops Q l a w
 | [],i,s,s',es,h,hQ,a,w,hG=>by
  simp only[S.runOps,Option.some.injEq,Prod.mk.injEq] at h;obtain⟨_,rfl⟩:=h;exact hQ a w hG
 | o::r,i,s,s',es,h,hQ,a,w,hG=>by
  unfold S.runOps at h
  split at h
  .cases h
  .rename_i e l he
   split at h
   .cases h
   .rename_i es' s2 hr
    simp only[Option.some.injEq,Prod.mk.injEq] at h;obtain⟨_,rfl⟩:=h;have hd:=Zrn hG (Zzr hW hcall hG) hcall he (wpList P ops Q r) Q λ a' w' hG'=>Zg7 hr hQ a' w' hG'
    rw[wpList];rcases hd with⟨hw,hd⟩|⟨hw,hd⟩
    .rw[if_pos hw]
     exact .inl hd
    .rw[if_neg (by rw[hw];simp)]
     exact hd
omit hW hcall in
theorem Zmr:∀{l:List Oper} {i:Nat},S.depsOk l i=true->∀k o,l[k]?=some o->∀e∈o.after,Yb1 .any e=true->e.on<i+k
 | [],i,h,k,o,hk=>by simp at hk
 | o'::r,i,h,k,o,hk=>by
  simp only[S.depsOk,Bool.and_eq_true] at h
  cases k with
  | zero =>
   simp at hk;subst hk;intro e he hb;have:=List.all_eq_true.1 h.1 e (Array.mem_toList_iff.2 he);simp only[hb,Bool.not_true,Bool.false_or] at this
   simpa using this
  | succ k =>
   intro e he hb;have:=Zmr h.2 k o (by simpa using hk) e he hb;omega
omit hW hcall in
theorem Zry {ops:Array Oper}(hd:S.depsOk ops.toList 0=true){listed:Array Bool}(hn:listed.size=ops.size)(hr:Ybg .any ops listed=[]):∀i,i<ops.size->listed.getD i false=true:=by
 intro i
 induction i using Yde with
 | _ i ih =>
  intro hi
  cases hl:listed.getD i false with
  | true=>rfl
  | false =>
   have ho:ops[i]?=some ops[i]:=Array.getElem?_eq_getElem hi;have hmem:i∈Ybg .any ops listed:=mem_ready.2 ⟨getD_in (by omega) hl,_,ho,λ e he hb=>by
    have:=Zmr hd i ops[i] (by rw[Array.getElem?_toList];exact ho) e he hb;exact ih e.on (by omega) (by omega)⟩
   rw[hr] at hmem
   cases hmem
theorem Zrz {ops:Array Oper}{Q:Exit->Act->World->Prop}{s s':S.St}{es:List (S.Eff×List Nat)}(h:S.runOps P N call ops ep ops.toList 0 s=some (es,s'))(hd:S.depsOk ops.toList 0=true)(hA:S.apartB es (S.befs ops.toList []) 0=true)
 (hQ:∀a w,GamX B N w0 H0 s' a w->Q .normal a w):∀(fuel:Nat)(listed:Array Bool)(a:Act)(w:World),listed.size=ops.size->(∀i j,listed.getD i false=true->Ybp .any ops i j=true->listed.getD j false=true) ->
  GamX B N w0 H0 (S.stL (λ k=>listed.getD k false) es 0 s) a w->listed.toList.countP (λ b=>!b)=fuel->wpAny P .any ops Q fuel listed a w:=by
 obtain⟨h1,h2,h3⟩:=Zh9 h;have hlen:es.length=ops.size:=by rw[h1];simp
 have hbl:(S.befs ops.toList []).length=es.length:=by rw[Zjc,hlen];simp
 have hend:∀(listed:Array Bool)(a:Act)(w:World),(∀i,i<ops.size->listed.getD i false=true)->GamX B N w0 H0 (S.stL (λ k=>listed.getD k false) es 0 s) a w->Q .normal a w:=λ listed a w hall hG=>by
  refine hQ a w ?_;have e:S.stL (λ k=>listed.getD k false) es 0 s=s':=by
   rw[h2];refine Z0q λ r=>Zgg es 0 s s (S.same.refl _ _) λ k e l hk _=>?_
   rw[Y9];exact hall k (by rw[<- hlen];exact(Yg.1 hk).1)
  rw[<- e];exact hG
 have bits:∀{L:Nat->Bool},(∀i j,L i=true->Ybp .any ops i j=true->L j=true)->∀k b,(S.befs ops.toList [])[k]?=some b->(∀m,Ybp .any ops k m=true->L m=true)->∀j,b.testBit j=true->L j=true:=λ {L} hcl k b hb hk j hj=>by
  have:=Zjd (ops:=ops) (C:=λ k j=>(∀m,Ybp .any ops k m=true->L m=true)->L j=true) [] ops.toList [] rfl rfl (λ i b hb=>by simp at hb) (λ i j hij hall=>hall j hij)
   (λ i j k hij hjk hall=>hjk λ m hm=>hcl j m (hall j hij) hm) k b hb j hj
  exact this hk
 intro fuel
 induction fuel with
 | zero =>
  intro listed a w hn hcl hG hc;have hall:∀i,i<ops.size->listed.getD i false=true:=λ i hi=>by
   have hi':i<listed.size:=by omega
   cases hl:listed.getD i false with
   | true=>rfl
   | false =>
    exfalso
    have:0<listed.toList.countP (λ b=>!b):=List.countP_pos_iff.2 ⟨false,by
     have e:listed[i]=false:=by simpa[hi'] using hl
     rw[<- e];simp,rfl⟩
    omega
  refine⟨?_,hend listed a w hall hG⟩
  cases hr:Ybg .any ops listed with
  | nil=>rfl
  | cons i r =>
   have hi:i∈Ybg .any ops listed:=by rw[hr];exact List.mem_cons_self
   obtain⟨hun,o,ho,_⟩:=mem_ready.1 hi;have:=hall i (Yv.1 ho).1;rw[getD_both hun] at this
   cases this
 | succ fuel ih =>
  intro listed a w hn hcl hG hc;refine⟨λ hr=>hend listed a w (Zry hd hn hr) hG,λ i hi=>?_⟩;obtain⟨hun,o,ho,hdeps⟩:=mem_ready.1 hi;have hun':=getD_both hun;have his:=(Yv.1 ho).1;have hil:i<listed.size:=by omega
  obtain⟨e,l,hei,hrun⟩:=h3 i o (by simpa using ho);have hw:∀m,Ybp .any ops i m=true->listed.getD m false=true:=λ m hm=>by
   obtain⟨oi,hoi,e',he',hb,hon⟩:=Region.waitsFor_spec hm;rw[ho] at hoi
   cases hoi
   have:=hdeps e' he' hb;rw[hon] at this;exact this
  obtain⟨q1,q2⟩:=Zze (L:=λ k=>listed.getD k false) hA hbl (λ k b hb hL j hj=>bits hcl k b hb (λ m hm=>hcl k m hL hm) j hj) hei hun' (λ b hb j hj=>bits hcl i b hb hw j hj) s;have hrun':=Zhx _ hrun (s':=S.stL (λ k=>listed.getD k false) es 0 s) (λ r hr=>by rw[Y9];exact q1 r hr);have hdo:=Zrn hG (Zzr hW hcall hG) hcall hrun' (wpAny P .any ops Q fuel (listed.setIfInBounds i true)) Q λ a' w' hG'=>ih _ a' w' (by rw[Array.size_setIfInBounds];exact hn) (λ k j hk hkj=>?_) ?_ ?_
  .unfold wpOp
   simp only[ho];rcases hdo with⟨hw',hdo⟩|⟨hw',hdo⟩
   .rw[if_pos hw']
    exact .inl hdo
   .rw[if_neg (by rw[hw'];simp)]
    exact hdo
  .by_cases c:k=i
   .subst c
    exact getD_set_true (hw j hkj)
   .rw[getD_set_ne false (Ne.symm c)] at hk
    exact getD_set_true (hcl k j hk hkj)
  .rw[<- q2] at hG'
   have e9:(λ k=>(listed.setIfInBounds i true).getD k false)=λ k=>if k=i then true else listed.getD k false:=by
    funext k
    by_cases c:k=i
    .subst c
     simp[hil]
    .rw[getD_set_ne false (Ne.symm c),if_neg c]
   rw[e9];exact hG'
  .rw[Array.toList_setIfInBounds,List.countP_set (by simpa using hil)]
   have e:listed.toList[i]'(by simpa using hil)=false:=by simpa[hil] using hun'
   have hp:0<listed.toList.countP (λ b=>!b):=List.countP_pos_iff.2 ⟨false,by rw[<- e];exact List.getElem_mem _,rfl⟩;simp only[e,Bool.not_false,if_true,Bool.not_true]
   first|omega | (simp only[Bool.false_eq_true,not_false_eq_true,if_true,if_false];omega)
theorem Zms {id:Nat}{ops:Array Oper}{draw:Bool}{Q:Exit->Act->World->Prop}{s s':S.St}(h:S.regionA P N call ep ops draw s=some s')(hQ:∀a w,GamX B N w0 H0 s' a w->Q .normal a w){a:Act}{w:World}(hG:GamX B N w0 H0 s a w) :
 (Code.region id ops draw).wp P Q a w:=by
 unfold S.regionA at h
 split at h
 .cases h
 .rename_i es s2 hr
  cases draw with
  | false =>
   simp only[Bool.false_eq_true,if_false,Option.some.injEq] at h;subst h;exact wp_region_list (Zg7 hW hcall hr hQ a w hG)
  | true =>
   simp only[if_true] at h
   split at h
   .rename_i hh
    obtain⟨hm,hd,hA⟩:=hh;simp only[Option.some.injEq] at h;subst h;refine wp_region_any hm (Zrz hW hcall hr hd hA hQ _ _ _ _ (by simp) (λ i j hi=>?_) ?_ (by simp[List.countP_replicate]))
    .rw[getD_replicate_false] at hi;cases hi
    .have e:S.stL (λ k=>(Yb3 ops.size false).getD k false) es 0 s=s:=by
      have key:∀(es:List (S.Eff×List Nat)) (k:Nat) (s:S.St),S.stL (λ k=>(Yb3 ops.size false).getD k false) es k s=s:=by
       intro es
       induction es with
       | nil=>intro k s;rfl
       | cons p es ih =>
        obtain⟨e1,l1⟩:=p;intro k s;rw[S.stL,getD_replicate_false,if_neg (by simp),ih]
      exact key es 0 s
     rw[e];exact hG.drew
   .cases h
end
namespace S
inductive AEx where
 | normal
 | exit (id:Nat)
 | ret
def AEx.to_:AEx->Exit
 | .normal=>.normal
 | .exit id=>.exit id
 | .ret=>.ret
def runCode (P:Program)(N:Nat)(call:FuncId->List AV->Option (AV×Tail)):Nat->Code->Nat->St->Option (AEx×Nat×St)
 | 0,_,_,_=>none
 | n+1,c,ep,s=>match c with
  | .skip=>some (.normal,ep,s)
  | .label _=>some (.normal,ep,s)
  | .ret=>some (.ret,ep,s)
  | .exit id=>some (.exit id,ep,s)
  | .region _ ops draw=>match regionA P N call ep ops draw s with
   | some s'=>some (.normal,ep+1,s')
   | none=>none
  | .seq x y=>match runCode P N call n x ep s with
   | some (.normal,ep',s')=>runCode P N call n y ep' s'
   | some (.exit id,ep',s')=>some (.exit id,ep',s')
   | some (.ret,ep',s')=>some (.ret,ep',s')
   | none=>none
  | .cond c x y=>match (evalA c).run s with
   | some (.bool true,_)=>runCode P N call n x ep s
   | some (.bool false,_)=>runCode P N call n y ep s
   | _=>none
  | .block id b=>match runCode P N call n b ep s with
   | some (.normal,ep',s')=>some (.normal,ep',s')
   | some (.exit id',ep',s')=>if id'=id then some (.normal,ep',s') else some (.exit id',ep',s')
   | some (.ret,ep',s')=>some (.ret,ep',s')
   | none=>none
  | .scope b=>runCode P N call n b ep s
  | .loop b=>match runCode P N call n b ep s with
   | some (.normal,ep',s')=>runCode P N call n (.loop b) ep' s'
   | some (.exit id,ep',s')=>some (.exit id,ep',s')
   | some (.ret,ep',s')=>some (.ret,ep',s')
   | none=>none
  | _=>none
end S
section
variable {P:Program}{B N:Nat}{w0:World}{H0:Zx}{W:World->Prop}{call:FuncId->List S.AV->Option (S.AV×S.Tail)}(hW:∀w,Below B w0 w->W w)(hcall:∀f xs r y,call f xs=some (r,y)->AFn P W f xs r y)
include hW hcall
theorem Zr0:∀(n:Nat)(c:Code)(ep ep':Nat)(s s':S.St)(ex:S.AEx),S.runCode P N call n c ep s=some (ex,ep',s')->∀(Q:Exit->Act->World->Prop),(∀a w,GamX B N w0 H0 s' a w->Q ex.to_ a w)->∀a w,GamX B N w0 H0 s a w->c.wp P Q a w:=by
 intro n
 induction n using Yde with
 | _ n ih =>
 intro c ep ep' s s' ex h Q hQ a w hG
 cases n with
 | zero=>simp[S.runCode] at h
 | succ n =>
 cases c with
 | skip =>
  simp only[S.runCode,Option.some.injEq,Prod.mk.injEq] at h;obtain⟨rfl,_,rfl⟩:=h;exact wp_skip (hQ a w hG)
 | label l =>
  simp only[S.runCode,Option.some.injEq,Prod.mk.injEq] at h;obtain⟨rfl,_,rfl⟩:=h;exact wp_label (hQ a w hG)
 | ret =>
  simp only[S.runCode,Option.some.injEq,Prod.mk.injEq] at h;obtain⟨rfl,_,rfl⟩:=h;exact wp_ret (hQ a w hG)
 | exit id =>
  simp only[S.runCode,Option.some.injEq,Prod.mk.injEq] at h;obtain⟨rfl,_,rfl⟩:=h;exact wp_exit (hQ a w hG)
 | region id ops draw =>
  simp only[S.runCode] at h
  split at h
  .rename_i s2 hr
   simp only[Option.some.injEq,Prod.mk.injEq] at h;obtain⟨rfl,_,rfl⟩:=h;exact Zms hW hcall hr hQ hG
  .cases h
 | seq x y =>
  simp only[S.runCode] at h;refine wp_seq ?_
  split at h
  .rename_i e1 s1 hx
   exact ih n (Yam n) x ep _ s _ _ hx _ (λ a w hG'=>ih n (Yam n) y _ _ _ _ _ h Q hQ a w hG') a w hG
  .rename_i id e1 s1 hx
   simp only[Option.some.injEq,Prod.mk.injEq] at h;obtain⟨rfl,_,rfl⟩:=h;refine ih n (Yam n) x ep _ s _ _ hx _ (λ a w hG'=>?_) a w hG;exact hQ a w hG'
  .rename_i e1 s1 hx
   simp only[Option.some.injEq,Prod.mk.injEq] at h;obtain⟨rfl,_,rfl⟩:=h;refine ih n (Yam n) x ep _ s _ _ hx _ (λ a w hG'=>?_) a w hG;exact hQ a w hG'
  .cases h
 | cond c x y =>
  simp only[S.runCode] at h;have hbool:∀b l,(S.evalA c).run s=some (.bool b,l)->a.eval c=.bool b:=λ b l he=>by
   obtain⟨H,φ,hG⟩:=hG;rcases Zr hG he with⟨_,_,hq,_⟩|hv
   .cases hq
   .rw[RepV] at hv;exact hv
  split at h
  .rename_i l he
   exact wp_cond_true (hbool _ _ he) (ih n (Yam n) x ep _ s _ _ h Q hQ a w hG)
  .rename_i l he
   exact wp_cond_false (hbool _ _ he) (ih n (Yam n) y ep _ s _ _ h Q hQ a w hG)
  .cases h
 | block id b =>
  simp only[S.runCode] at h;refine wp_block ?_
  split at h
  .rename_i e1 s1 hx
   simp only[Option.some.injEq,Prod.mk.injEq] at h;obtain⟨rfl,_,rfl⟩:=h;refine ih n (Yam n) b ep _ s _ _ hx _ (λ a w hG'=>?_) a w hG;exact hQ a w hG'
  .rename_i id' e1 s1 hx
   split at h
   .rename_i hid
    simp only[Option.some.injEq,Prod.mk.injEq] at h;obtain⟨rfl,_,rfl⟩:=h;refine ih n (Yam n) b ep _ s _ _ hx _ (λ a w hG'=>?_) a w hG
    show Exit.inBlock id Q (.exit id') a w
    unfold Exit.inBlock;simp only[if_pos hid];exact hQ a w hG'
   .rename_i hid
    simp only[Option.some.injEq,Prod.mk.injEq] at h;obtain⟨rfl,_,rfl⟩:=h;refine ih n (Yam n) b ep _ s _ _ hx _ (λ a w hG'=>?_) a w hG
    show Exit.inBlock id Q (.exit id') a w
    unfold Exit.inBlock;simp only[if_neg hid];exact hQ a w hG'
  .rename_i e1 s1 hx
   simp only[Option.some.injEq,Prod.mk.injEq] at h;obtain⟨rfl,_,rfl⟩:=h;refine ih n (Yam n) b ep _ s _ _ hx _ (λ a w hG'=>?_) a w hG;exact hQ a w hG'
  .cases h
 | scope b =>
  simp only[S.runCode] at h;refine wp_scope_straight (ih n (Yam n) b ep _ s _ _ h _ (λ a w hG'=>?_) a w hG);have:=hQ a w hG'
  cases ex <;> exact this
 | loop b =>
  refine wp_loop_ghost (λ m a w=>m<=n+1/\∃ep s,GamX B N w0 H0 s a w/\S.runCode P N call m (.loop b) ep s=some (ex,ep',s')) (n+1) ⟨Yb _,ep,s,hG,h⟩ ?_;rintro m a w ⟨hm,ep1,s1,hG1,h1⟩
  cases m with
  | zero=>simp[S.runCode] at h1
  | succ m =>
   simp only[S.runCode] at h1
   split at h1
   .rename_i e2 s2 hx
    exact ih m (by omega) b ep1 _ s1 _ _ hx _ (λ a w hG'=>⟨m,Yam m,by omega,_,_,hG',h1⟩) a w hG1
   .rename_i id e2 s2 hx
    simp only[Option.some.injEq,Prod.mk.injEq] at h1;obtain⟨rfl,_,rfl⟩:=h1;refine ih m (by omega) b ep1 _ s1 _ _ hx _ (λ a w hG'=>?_) a w hG1;exact hQ a w hG'
   .rename_i e2 s2 hx
    simp only[Option.some.injEq,Prod.mk.injEq] at h1;obtain⟨rfl,_,rfl⟩:=h1;refine ih m (by omega) b ep1 _ s1 _ _ hx _ (λ a w hG'=>?_) a w hG1;exact hQ a w hG'
   .cases h1
 | rangeFunc f ps x y=>simp[S.runCode] at h
 | goto l=>simp[S.runCode] at h
 | refuse w=>simp[S.runCode] at h
end
end
section
namespace S
def resultA (P:Program)(s:St):ResultVar->Option (AV×Tail)
 | .tmp t=>match s.sl t with
  | some v=>if v.free=true then some (v,s.tl t) else none
  | none=>none
 | .cell p t=>match s.sl p with
  | some (.box i off)=>match s.hp i with
   | some (_,cs)=>match loadA P t cs off with
    | some v=>some (v,none)
    | none=>none
   | none=>none
  | _=>none
def resultsA (P:Program)(s:St):List ResultVar->Option (List AV)
 | []=>some []
 | r::rs=>match resultA P s r,resultsA P s rs with
  | some (v,_),some vs=>some (v::vs)
  | _,_=>none
def initSt (xs:List AV):St:=⟨λ t=>xs[t]?,λ _=>none,λ _=>none⟩
def bodyA (P:Program)(call:FuncId->List AV->Option (AV×Tail))(cf:Nat)(fn:Func)(c:Code)(xs:List AV):Option (AV×Tail) :=
 if xs.length<=fn.ntmps then match runCode P fn.ntmps call cf c 0 (initSt xs) with
  | some (.exit _,_,_)=>none
  | some (_,_,s)=>match fn.results.toList with
   | [r]=>resultA P s r
   | rs=>match resultsA P s rs with
    | some vs=>if vs.length=1 then none else some (.tup vs,none)
    | none=>none
  | none=>none
 else none
def runFn (P:Program)(orc:FuncId->List AV->Option (AV×Tail))(cf:Nat):Nat->FuncId->List AV->Option (AV×Tail)
 | 0,_,_=>none
 | n+1,f,xs=>match orc f xs with
  | some r=>some r
  | none=>match P.funcs[f]? with
   | some fn=>match fn.body with
    | some c=>bodyA P (runFn P orc cf n) cf fn c xs
    | none=>none
   | none=>none
end S
def Zqm (tmps:Array Value):ResultVar->Sem Value
 | .tmp t=>pure (tmps.getD t undef)
 | .cell p t=>do loadVar t (← asAddr (tmps.getD p undef))
theorem Zka (fn:Func)(tmps:Array Value):results fn tmps=(do let vs ← fn.results.mapM (Zqm tmps);pure (if h:vs.size=1 then vs[0] else .tuple vs)):=by
 unfold results
 congr
section
variable {P:Program}{B N:Nat}{w0:World}{H0:Zx}{s:S.St}{a:Act}{w:World}{H:Zx}{φ:Nat->Nat}
theorem Zkb (hG:Gam B N w0 H0 s a w H φ){r:ResultVar}{v:S.AV}{y:S.Tail}(h:S.resultA P s r=some (v,y)) :
 ∃u,(Zqm a.tmps r).run P w=.ok u w/\RepV H w v u/\∀z,y=some z->TailOk H w B z v u:=by
 cases r with
 | tmp t =>
  simp only[S.resultA] at h
  split at h
  .rename_i x hx
   split at h
   .rename_i hf
    simp only[Option.some.injEq,Prod.mk.injEq] at h;obtain⟨rfl,rfl⟩:=h;refine⟨_,rfl,Zrl (hG.slot t _ hx) hf,λ z hz=>?_⟩;obtain⟨x',hx',hok⟩:=hG.tail t z hz;rw[hx] at hx'
    cases hx'
    exact hok
   .cases h
  .cases h
 | cell p t =>
  simp only[S.resultA] at h
  split at h
  .rename_i i off hx
   split at h
   .rename_i e cs hcs
    split at h
    .rename_i v' hv
     simp only[Option.some.injEq,Prod.mk.injEq] at h;obtain⟨rfl,rfl⟩:=h;rcases hG.slot p _ hx with⟨i',off',hi,hsm,hp⟩|hr
     .cases hi
      obtain⟨_,_,vs,h1,h2⟩:=hG.ent i e cs hcs;obtain⟨u,hrun,hrep⟩:=Zrm (off:=off) (q:=0) (Zhk h1) h2 hv;refine⟨u,?_,hrep,λ z hz=>by cases hz⟩;rw[Y9] at hrun;simp only[Instr.loadAt,Instr.sureAddr,Yai,Yas,Y4] at hrun;simp only[Zqm,hp,asAddr,Yai,Yas,Y4,hrun]
     .rw[RepV] at hr;exact hr.elim
    .cases h
   .cases h
  .cases h
theorem Zia (hG:Gam B N w0 H0 s a w H φ):∀{rs:List ResultVar} {xs:List S.AV},S.resultsA P s rs=some xs->∃vs,(rs.mapM (Zqm a.tmps)).run P w=.ok vs w/\RepT H w xs vs
 | [],xs,h=>by
  simp only[S.resultsA,Option.some.injEq] at h;subst h;exact⟨[],rfl,by rw[RepT]⟩
 | r::rs,xs,h=>by
  unfold S.resultsA at h
  split at h
  .rename_i v y vs h1 h2
   cases h
   obtain⟨u,hu,hrep,_⟩:=Zkb hG h1;obtain⟨us,hus,hreps⟩:=Zia hG h2;refine⟨u::us,?_,by rw[RepT];exact⟨u,us,rfl,hrep,hreps⟩⟩;rw[Ydr];simp only[Yai,hu,Y4,hus,Yas]
  .cases h
theorem Zxx {fn:Func}{xs:List S.AV}{vs:List Value}(hn:xs.length<=fn.ntmps)(hb:∀b k,H b=some k->Bk w b)(hr:RepT H w xs vs) :
 Gam w.heap.size fn.ntmps w H (S.initSt xs) { tmps:=vs.toArray++Yb3 (fn.ntmps-vs.toArray.size) undef,defers:=[] } w H (λ _=>0):=by
 have hl:=RepT.length hr;refine⟨Below.refl _ _,Yb _,λ _ _=>rfl,hb,by simp;omega,rfl,λ t x hx=>.inr ?_,λ i e cs hi=>by simp[S.initSt] at hi,λ i j hi=>by simp[S.initSt] at hi,λ t y hy=>by simp[S.initSt] at hy,λ t t' _ ht=>by simp[S.initSt] at ht⟩;obtain⟨v,hv,hrep⟩:=RepT.at_ hr (show xs[t]?=some x from hx);have e:({ tmps:=vs.toArray++Yb3 (fn.ntmps-vs.toArray.size) undef,defers:=[] }:Act).tmps.getD t undef=v:=by
  have hlt:=(Yg.1 hv).1;simp only[Array.getD_eq_getD_getElem?];rw[Array.getElem?_append_left (by simpa using hlt)];simp[hv]
 rw[e];exact hrep
theorem Zr1 {W:World->Prop}(hWs:∀w w',W w->Below w.heap.size w w'->W w'){call:FuncId->List S.AV->Option (S.AV×S.Tail)}(hcall:∀f xs r y,call f xs=some (r,y)->AFn P W f xs r y){cf:Nat}{f:FuncId}{fn:Func}{c:Code}
 (hf:P.funcs[f]?=some fn) (hc:fn.body=some c) {xs:List S.AV} {r:S.AV} {y:S.Tail} (h:S.bodyA P call cf fn c xs=some (r,y)):AFn P W f xs r y:=by
 intro H w vs hbnd hWw hrep;unfold S.bodyA at h
 split at h
 .rename_i hn
  refine calls_of_wp hf hc ?_;have hG:=Zxx (fn:=fn) hn hbnd hrep;have fin:∀(s:S.St)(a:Act)(w':World),GamX w.heap.size fn.ntmps w H s a w'->(match fn.results.toList with | [q]=>S.resultA P s q|rs=>match S.resultsA P s rs with|some us=>if us.length=1 then none else some (.tup us,none) | none=>none)=some (r,y) ->
   a.defers=[]/\∃v,(results fn a.tmps).run P w'=.ok v w'/\∃v' H',Ending.returned v=.returned v'/\Below w.heap.size w w'/\(∀b,b<w.heap.size->H' b=H b)/\(∀b k,H' b=some k->Bk w' b)/\RepV H' w' r v'/\∀z,y=some z->TailOk H' w' w.heap.size z r v':=by
   rintro s a w' ⟨H',φ,hG'⟩ hres;refine⟨hG'.defs,?_⟩
   split at hres
   .rename_i q hq
    obtain⟨u,hu,hr,ht⟩:=Zkb hG' hres;have e:fn.results=#[q]:=by rw[<- Array.toArray_toList (xs:=fn.results),hq]
    refine⟨u,?_,u,H',rfl,hG'.bel,hG'.old,hG'.bnd,hr,ht⟩;rw[Zka,Yai,Ydl,hq,Ydr,List.mapM_nil];simp only[Yai,Sem.run_map,hu,Y4,Yas];rfl
   .rename_i hne
    split at hres
    .rename_i us hus
     split at hres
     .cases hres
     .rename_i h1
      simp only[Option.some.injEq,Prod.mk.injEq] at hres;obtain⟨rfl,rfl⟩:=hres;obtain⟨ws,hws,hT⟩:=Zia hG' hus;have hl:=RepT.length hT;refine⟨.tuple ws.toArray,?_,_,H',rfl,hG'.bel,hG'.old,hG'.bnd,by rw[RepV];exact⟨ws,rfl,hT⟩,λ z hz=>by cases hz⟩;rw[Zka,Yai,Ydl];simp only[Sem.run_map,hws,Y4,Yas];rw[dif_neg];rw[List.size_toArray,hl];exact h1
    .cases hres
  split at h
  .cases h
  .rename_i ex ep s hne hcode
   refine Zr0 (W:=W) (λ w' hb=>hWs w w' hWw hb) hcall cf c 0 ep _ s ex hcode _ (λ a w' hG'=>?_) _ w ⟨H,_,hG⟩;have:=fin s a w' hG' h
   cases ex with
   | normal=>exact this
   | ret=>exact this
   | exit id=>exact(hne _ rfl).elim
  .cases h
 .cases h
theorem Zk6 {W:World->Prop}(hWs:∀w w',W w->Below w.heap.size w w'->W w'){orc:FuncId->List S.AV->Option (S.AV×S.Tail)}(horc:∀f xs r y,orc f xs=some (r,y)->AFn P W f xs r y){cf:Nat} :
 ∀(n:Nat)(f:FuncId)(xs:List S.AV)(r:S.AV)(y:S.Tail),S.runFn P orc cf n f xs=some (r,y)->AFn P W f xs r y
 | 0,f,xs,r,y,h=>by simp[S.runFn] at h
 | n+1,f,xs,r,y,h=>by
  unfold S.runFn at h
  split at h
  .rename_i q hq
   cases h
   exact horc f xs r y hq
  .split at h
   .rename_i fn hf
    split at h
    .rename_i c hc
     exact Zr1 hWs (λ f xs r y h=>Zk6 hWs horc n f xs r y h) hf hc h
    .cases h
   .cases h
end
end
mutual
def ECell (w:World)(B b o:Nat):S.BE->Prop
 | .mk op n name kids=>w.cell? ⟨b,o,none⟩=some (.int .i64 op)/\w.cell? ⟨b,o+1,none⟩=some (.int .i64 n)/\w.cell? ⟨b,o+2,none⟩=some (.string name)/\name.size<=maxLen/\kids.length<=maxLen /\
  ∃A c,w.cell? ⟨b,o+3,none⟩=some (.slice A kids.length c)/\(kids=[]\/∃b' off,A=some ⟨b',off,none⟩/\b'<B/\EKids w B b' off kids)
def EKids (w:World)(B b o:Nat):List S.BE->Prop
 | []=>True
 | e::r=>ECell w B b o e/\EKids w B b (o+4) r
end
def EList (w:World)(B:Nat)(A:Option Addr)(l:List S.BE):Prop:=l=[]\/∃b off,A=some ⟨b,off,none⟩/\b<B/\EKids w B b off l
def Z6m (w:World)(B:Nat)(e:S.BE)(v:Value):Prop :=
 ∃A c,v=.agg #[.int .i64 e.op,.int .i64 e.n,.string e.name,.slice A e.kids.length c]/\e.name.size<=maxLen/\e.kids.length<=maxLen/\EList w B A e.kids
mutual
theorem ECell.below {w w':World}{B b o:Nat}(hb:Below B w w')(hlt:b<B):∀{e:S.BE},ECell w B b o e->ECell w' B b o e
 | .mk op n name kids,h=>by
  rw[ECell] at h⊢;obtain⟨h1,h2,h3,h4,h5,A,c,h6,h7⟩:=h;refine⟨(hb.cell (p:=⟨b,_,none⟩) hlt).trans h1,(hb.cell (p:=⟨b,_,none⟩) hlt).trans h2,(hb.cell (p:=⟨b,_,none⟩) hlt).trans h3,h4,h5,A,c,(hb.cell (p:=⟨b,_,none⟩) hlt).trans h6,?_⟩;rcases h7 with h7|⟨b',off,h8,h9,h10⟩
  .exact .inl h7
  .exact .inr ⟨b',off,h8,h9,EKids.below hb h9 h10⟩
theorem EKids.below {w w':World}{B b o:Nat}(hb:Below B w w')(hlt:b<B):∀{l:List S.BE},EKids w B b o l->EKids w' B b o l
 | [],_=>by rw[EKids];trivial
 | e::r,h=>by
  rw[EKids] at h⊢;exact⟨ECell.below hb hlt h.1,EKids.below hb hlt h.2⟩
end
mutual
theorem ECell.more {w:World}{B B' b o:Nat}(hB:B<=B'):∀{e:S.BE},ECell w B b o e->ECell w B' b o e
 | .mk op n name kids,h=>by
  rw[ECell] at h⊢;obtain⟨h1,h2,h3,h4,h5,A,c,h6,h7⟩:=h;refine⟨h1,h2,h3,h4,h5,A,c,h6,?_⟩;rcases h7 with h7|⟨b',off,h8,h9,h10⟩
  .exact .inl h7
  .exact .inr ⟨b',off,h8,Yy h9 hB,EKids.more hB h10⟩
theorem EKids.more {w:World}{B B' b o:Nat}(hB:B<=B'):∀{l:List S.BE},EKids w B b o l->EKids w B' b o l
 | [],_=>by rw[EKids];trivial
 | e::r,h=>by
  rw[EKids] at h⊢;exact⟨ECell.more hB h.1,EKids.more hB h.2⟩
end
theorem EList.below {w w':World}{B:Nat}{A:Option Addr}{l:List S.BE}(h:EList w B A l)(hb:Below B w w'):EList w' B A l:=by
 rcases h with h|⟨b,off,h1,h2,h3⟩
 .exact .inl h
 .exact .inr ⟨b,off,h1,h2,h3.below hb h2⟩
theorem EList.more {w:World}{B B':Nat}{A:Option Addr}{l:List S.BE}(h:EList w B A l)(hB:B<=B'):EList w B' A l:=by
 rcases h with h|⟨b,off,h1,h2,h3⟩
 .exact .inl h
 .exact .inr ⟨b,off,h1,Yy h2 hB,h3.more hB⟩
theorem EKids.at_ {w:World}{B b:Nat}:∀{l:List S.BE} {o k:Nat} {e:S.BE},EKids w B b o l->l[k]?=some e->ECell w B b (o+k*4) e
 | [],o,k,e,_,h=>by simp at h
 | x::r,o,0,e,hk,h=>by
  rw[EKids] at hk;simp only[Ya0,Option.some.injEq] at h;subst h
  simpa using hk.1
 | x::r,o,k+1,e,hk,h=>by
  rw[EKids] at hk;have:=EKids.at_ hk.2 (k:=k) (by simpa using h);have e1:o+4+k*4=o+(k+1)*4:=by omega
  rw[e1] at this;exact this
theorem EList.at_ {w:World}{B:Nat}{A:Option Addr}{l:List S.BE}(h:EList w B A l){k:Nat}{e:S.BE}(hk:l[k]?=some e) :
 ∃b off A' c',A=some ⟨b,off,none⟩/\b<B/\w.cell? ⟨b,off+k*4,none⟩=some (.int .i64 e.op)/\w.cell? ⟨b,off+k*4+1,none⟩=some (.int .i64 e.n)/\w.cell? ⟨b,off+k*4+2,none⟩=some (.string e.name) /\
  w.cell? ⟨b,off+k*4+3,none⟩=some (.slice A' e.kids.length c')/\e.name.size<=maxLen/\e.kids.length<=maxLen/\EList w B A' e.kids:=by
 rcases h with h|⟨b,off,h1,h2,h3⟩
 .subst h;simp at hk
 .have h4:=h3.at_ hk
  obtain⟨op,n,name,kids⟩:=e;rw[ECell] at h4;obtain⟨q1,q2,q3,q4,q5,A',c',q6,q7⟩:=h4;exact⟨b,off,A',c',h1,h2,q1,q2,q3,q6,q4,q5,q7⟩
mutual
def SCell (w:World)(B b o:Nat):S.BS->Prop
 | .mk op n name exprs regs body els=>w.cell? ⟨b,o,none⟩=some (.int .i64 op)/\w.cell? ⟨b,o+1,none⟩=some (.int .i64 n)/\w.cell? ⟨b,o+2,none⟩=some (.string name)/\name.size<=maxLen/\exprs.length<=maxLen/\regs.length<=maxLen/\body.length<=maxLen/\els.length<=maxLen /\
  (∃A c,w.cell? ⟨b,o+3,none⟩=some (.slice A exprs.length c)/\EList w B A exprs)/\(∃A c,w.cell? ⟨b,o+4,none⟩=some (.slice A regs.length c)/\Ints w B A regs) /\
  (∃A c,w.cell? ⟨b,o+5,none⟩=some (.slice A body.length c)/\(body=[]\/∃b' off,A=some ⟨b',off,none⟩/\b'<B/\SKids w B b' off body)) /\
  (∃A c,w.cell? ⟨b,o+6,none⟩=some (.slice A els.length c)/\(els=[]\/∃b' off,A=some ⟨b',off,none⟩/\b'<B/\SKids w B b' off els))
def SKids (w:World)(B b o:Nat):List S.BS->Prop
 | []=>True
 | s::r=>SCell w B b o s/\SKids w B b (o+7) r
end
def SList (w:World)(B:Nat)(A:Option Addr)(l:List S.BS):Prop:=l=[]\/∃b off,A=some ⟨b,off,none⟩/\b<B/\SKids w B b off l
mutual
theorem SCell.below {w w':World}{B b o:Nat}(hb:Below B w w')(hlt:b<B):∀{s:S.BS},SCell w B b o s->SCell w' B b o s
 | .mk op n name exprs regs body els,h=>by
  rw[SCell] at h⊢;obtain⟨h1,h2,h3,h4,h5,h6,h7,h8,⟨A1,c1,a1,a2⟩,⟨A2,c2,b1,b2⟩,⟨A3,c3,d1,d2⟩,⟨A4,c4,e1,e2⟩⟩:=h;refine⟨(hb.cell (p:=⟨b,_,none⟩) hlt).trans h1,(hb.cell (p:=⟨b,_,none⟩) hlt).trans h2,(hb.cell (p:=⟨b,_,none⟩) hlt).trans h3,h4,h5,h6,h7,h8,⟨A1,c1,(hb.cell (p:=⟨b,_,none⟩) hlt).trans a1,a2.below hb⟩,
   ⟨A2,c2,(hb.cell (p:=⟨b,_,none⟩) hlt).trans b1,b2.below hb⟩,⟨A3,c3,(hb.cell (p:=⟨b,_,none⟩) hlt).trans d1,?_⟩,⟨A4,c4,(hb.cell (p:=⟨b,_,none⟩) hlt).trans e1,?_⟩⟩
  .rcases d2 with d2|⟨b',off,q1,q2,q3⟩
   .exact .inl d2
   .exact .inr ⟨b',off,q1,q2,SKids.below hb q2 q3⟩
  .rcases e2 with e2|⟨b',off,q1,q2,q3⟩
   .exact .inl e2
   .exact .inr ⟨b',off,q1,q2,SKids.below hb q2 q3⟩
theorem SKids.below {w w':World}{B b o:Nat}(hb:Below B w w')(hlt:b<B):∀{l:List S.BS},SKids w B b o l->SKids w' B b o l
 | [],_=>by rw[SKids];trivial
 | e::r,h=>by
  rw[SKids] at h⊢;exact⟨SCell.below hb hlt h.1,SKids.below hb hlt h.2⟩
end
mutual
theorem SCell.more {w:World}{B B' b o:Nat}(hB:B<=B'):∀{s:S.BS},SCell w B b o s->SCell w B' b o s
 | .mk op n name exprs regs body els,h=>by
  rw[SCell] at h⊢;obtain⟨h1,h2,h3,h4,h5,h6,h7,h8,⟨A1,c1,a1,a2⟩,⟨A2,c2,b1,b2⟩,⟨A3,c3,d1,d2⟩,⟨A4,c4,e1,e2⟩⟩:=h;refine⟨h1,h2,h3,h4,h5,h6,h7,h8,⟨A1,c1,a1,a2.more hB⟩,⟨A2,c2,b1,b2.more hB⟩,⟨A3,c3,d1,?_⟩,⟨A4,c4,e1,?_⟩⟩
  .rcases d2 with d2|⟨b',off,q1,q2,q3⟩
   .exact .inl d2
   .exact .inr ⟨b',off,q1,Yy q2 hB,SKids.more hB q3⟩
  .rcases e2 with e2|⟨b',off,q1,q2,q3⟩
   .exact .inl e2
   .exact .inr ⟨b',off,q1,Yy q2 hB,SKids.more hB q3⟩
theorem SKids.more {w:World}{B B' b o:Nat}(hB:B<=B'):∀{l:List S.BS},SKids w B b o l->SKids w B' b o l
 | [],_=>by rw[SKids];trivial
 | e::r,h=>by
  rw[SKids] at h⊢;exact⟨SCell.more hB h.1,SKids.more hB h.2⟩
end
theorem SList.below {w w':World}{B:Nat}{A:Option Addr}{l:List S.BS}(h:SList w B A l)(hb:Below B w w'):SList w' B A l:=by
 rcases h with h|⟨b,off,h1,h2,h3⟩
 .exact .inl h
 .exact .inr ⟨b,off,h1,h2,h3.below hb h2⟩
theorem SList.more {w:World}{B B':Nat}{A:Option Addr}{l:List S.BS}(h:SList w B A l)(hB:B<=B'):SList w B' A l:=by
 rcases h with h|⟨b,off,h1,h2,h3⟩
 .exact .inl h
 .exact .inr ⟨b,off,h1,Yy h2 hB,h3.more hB⟩
theorem SKids.at_ {w:World}{B b:Nat}:∀{l:List S.BS} {o k:Nat} {s:S.BS},SKids w B b o l->l[k]?=some s->SCell w B b (o+k*7) s
 | [],o,k,e,_,h=>by simp at h
 | x::r,o,0,e,hk,h=>by
  rw[SKids] at hk;simp only[Ya0,Option.some.injEq] at h;subst h
  simpa using hk.1
 | x::r,o,k+1,e,hk,h=>by
  rw[SKids] at hk;have:=SKids.at_ hk.2 (k:=k) (by simpa using h);have e1:o+7+k*7=o+(k+1)*7:=by omega
  rw[e1] at this;exact this
structure SPart (w:World)(B:Nat)(s:S.BS)(A1 A2 A3 A4:Option Addr):Prop where
 name:s.name.size<=maxLen
 l1:s.exprs.length<=maxLen
 l2:s.regs.length<=maxLen
 l3:s.body.length<=maxLen
 l4:s.els.length<=maxLen
 exprs:EList w B A1 s.exprs
 regs:Ints w B A2 s.regs
 body:SList w B A3 s.body
 els:SList w B A4 s.els
theorem SPart.below {w w':World}{B:Nat}{s:S.BS}{A1 A2 A3 A4:Option Addr}(h:SPart w B s A1 A2 A3 A4)(hb:Below B w w'):SPart w' B s A1 A2 A3 A4 :=
 ⟨h.name,h.l1,h.l2,h.l3,h.l4,h.exprs.below hb,h.regs.below hb,h.body.below hb,h.els.below hb⟩
theorem SPart.more {w:World}{B B':Nat}{s:S.BS}{A1 A2 A3 A4:Option Addr}(h:SPart w B s A1 A2 A3 A4)(hB:B<=B'):SPart w B' s A1 A2 A3 A4 :=
 ⟨h.name,h.l1,h.l2,h.l3,h.l4,h.exprs.more hB,h.regs.more hB,h.body.more hB,h.els.more hB⟩
def sVal (s:S.BS)(A1 A2 A3 A4:Option Addr)(c1 c2 c3 c4:Nat):List Value :=
 [.int .i64 s.op,.int .i64 s.n,.string s.name,.slice A1 s.exprs.length c1,.slice A2 s.regs.length c2,.slice A3 s.body.length c3,.slice A4 s.els.length c4]
theorem SList.at_ {w:World}{B:Nat}{A:Option Addr}{l:List S.BS}(h:SList w B A l){k:Nat}{s:S.BS}(hk:l[k]?=some s) :
 ∃b off A1 c1 A2 c2 A3 c3 A4 c4,A=some ⟨b,off,none⟩/\b<B/\w.cell? ⟨b,off+k*7,none⟩=some (.int .i64 s.op)/\w.cell? ⟨b,off+k*7+1,none⟩=some (.int .i64 s.n)/\w.cell? ⟨b,off+k*7+2,none⟩=some (.string s.name) /\
  w.cell? ⟨b,off+k*7+3,none⟩=some (.slice A1 s.exprs.length c1)/\w.cell? ⟨b,off+k*7+4,none⟩=some (.slice A2 s.regs.length c2)/\w.cell? ⟨b,off+k*7+5,none⟩=some (.slice A3 s.body.length c3) /\
  w.cell? ⟨b,off+k*7+6,none⟩=some (.slice A4 s.els.length c4)/\SPart w B s A1 A2 A3 A4:=by
 rcases h with h|⟨b,off,h1,h2,h3⟩
 .subst h;simp at hk
 .have h4:=h3.at_ hk
  obtain⟨op,n,name,exprs,regs,body,els⟩:=s;rw[SCell] at h4;obtain⟨q1,q2,q3,q4,q5,q6,q7,q8,⟨A1,c1,a1,a2⟩,⟨A2,c2,b1,b2⟩,⟨A3,c3,d1,d2⟩,⟨A4,c4,e1,e2⟩⟩:=h4;exact⟨b,off,A1,c1,A2,c2,A3,c3,A4,c4,h1,h2,q1,q2,q3,a1,b1,d1,e1,q4,q5,q6,q7,q8,a2,b2,d2,e2⟩
mutual
def szE:S.BE->Nat
 | .mk _ _ _ kids=>1+Ze2 kids
def Ze2:List S.BE->Nat
 | []=>0
 | e::r=>szE e+Ze2 r
end
theorem Zk7:∀{l:List S.BE} {e:S.BE},e∈l->szE e<=Ze2 l
 | x::r,e,h=>by
  rw[Ze2];rcases Yz.1 h with rfl|h
  .omega
  .have:=Zk7 h;omega
theorem Zdj (e:S.BE):szE e=1+Ze2 e.kids:=by
 obtain⟨op,n,name,kids⟩:=e;rw[szE];rfl
mutual
def szS:S.BS->Nat
 | .mk _ _ _ exprs _ body els=>1+Ze2 exprs+Zhq body+Zhq els
def Zhq:List S.BS->Nat
 | []=>0
 | s::r=>szS s+Zhq r
end
theorem Zo8:∀{l:List S.BS} {s:S.BS},s∈l->szS s<=Zhq l
 | x::r,e,h=>by
  rw[Zhq];rcases Yz.1 h with rfl|h
  .omega
  .have:=Zo8 h;omega
theorem Zib (s:S.BS):szS s=1+Ze2 s.exprs+Zhq s.body+Zhq s.els:=by
 obtain⟨op,n,name,exprs,regs,body,els⟩:=s;rw[szS];rfl
