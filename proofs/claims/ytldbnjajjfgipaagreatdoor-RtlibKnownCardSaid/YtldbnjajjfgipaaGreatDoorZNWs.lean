/- Parts. -/
import Derived.Test.YtldbnjajjfgipaaGreatDoorZQg
import Derived.Test.YtldbnjajjfgipaaGreatDoorZBAnL
import Derived.Scope
set_option linter.all false
open Nat renaming le_refl->Yd,zero_add->Yw,lt_succ_self->Yav,strongRecOn->Yck
open Array renaming getElem?_eq_some_iff->Yv,replicate->Ya6
open Go.Region renaming ready->Yap,waitsFor->Yba,binds->Ybh
namespace Go.Proofs.YtldbnjajjfgipaaGreatDoor
open S Go.RowKit
section
namespace S
def runOps (P:Program)(N:Nat)(call:FuncId->List AV->Option (AV×Tail))(ops:Array Oper)(ep:Nat):List Oper->Nat->St->Option (List (Eff×List Nat)×St)
 | [],_,s=>some ([],s)
 | o::r,i,s=>match (effOp P N call ops (1000*ep+i) o).run s with
  | none=>none
  | some (e,l)=>match runOps P N call ops ep r (i+1) (e.apply s) with
   | none=>none
   | some (es,s')=>some ((e,l)::es,s')
def depsOk:List Oper->Nat->Bool
 | [],_=>true
 | o::r,i=>o.after.toList.all (λ e=>!Ybh .any e || Nat.blt e.on i) && depsOk r (i+1)
def regionA (P:Program)(N:Nat)(call:FuncId->List AV->Option (AV×Tail))(ep:Nat)(ops:Array Oper)(draw:Bool)(s:St):Option St:=match runOps P N call ops ep ops.toList 0 s with
 | none=>none
 | some (es,s')=>if draw=true then(if P.follows .mixedOrders=true/\depsOk ops.toList 0=true/\apartB es (befs ops.toList []) 0=true then some s' else none) else some s'
end S
section
variable {P:Program}{B N:Nat}{w0:World}{H0:Zl}{W:World->Prop}{call:FuncId->List S.AV->Option (S.AV×S.Tail)}{ep:Nat}
theorem Zhd {oa:Array Oper}:∀{ops:List Oper} {i:Nat} {s s':S.St} {es:List (S.Eff×List Nat)},S.runOps P N call oa ep ops i s=some (es,s') ->
 es.length=ops.length/\s'=stL (λ _=>true) es i s/\∀k o,ops[k]?=some o->∃e l,es[k]?=some (e,l)/\(S.effOp P N call oa (1000*ep+(i+k)) o).run (stL (λ j=>decide (j<i+k)) es i s)=some (e,l)
 | [],i,s,s',es,h=>by
  simp only[S.runOps,Option.some.injEq,Prod.mk.injEq] at h;obtain⟨rfl,rfl⟩:=h;exact⟨rfl,rfl,λ k o hk=>by simp at hk⟩
 | o::r,i,s,s',es,h=>by
  unfold S.runOps at h
  split at h
  .cases h
  .rename_i e l he
   split at h
   .cases h
   .rename_i es' s2 hr
    simp only[Option.some.injEq,Prod.mk.injEq] at h;obtain⟨rfl,rfl⟩:=h;obtain⟨h1,h2,h3⟩:=Zhd hr;refine⟨by rw[List.length_cons,List.length_cons,h1],by rw[stL,if_pos rfl];exact h2,λ k o' hk=>?_⟩
    cases k with
    | zero =>
     simp at hk;subst hk;refine⟨e,l,rfl,?_⟩;have e0:stL (λ j=>decide (j<i+0)) ((e,l)::es') i s=s:=by
      have key:∀(es:List (S.Eff×List Nat)) (k:Nat) (s:S.St),i<=k->stL (λ j=>decide (j<i+0)) es k s=s:=by
       intro es
       induction es with
       | nil=>intro k s _;rfl
       | cons p es ih =>
        obtain⟨e1,l1⟩:=p;intro k s hk;rw[stL,if_neg (by simp;omega),ih (k+1) s (by omega)]
      exact key _ i s (Yd _)
     rw[e0];exact he
    | succ k =>
     obtain⟨e',l',h4,h5⟩:=h3 k o' (by simpa using hk);refine⟨e',l',by simpa using h4,?_⟩;rw[stL,if_pos (by simp),show i+(k+1)=i+1+k by omega];exact h5
theorem GamX.drew {s:S.St}{a:Act}{w:World}(h:GamX B N w0 H0 s a w):GamX B N w0 H0 s a w.drew:=by
 obtain⟨H,φ,h⟩:=h;refine⟨H,φ,⟨⟨h.bel.os,h.bel.tape,h.bel.output,h.bel.size,h.bel.block⟩,h.base,h.old,h.bnd,h.size,h.defs,λ t x hx=>?_,λ i e cs hi=>?_,h.inj,λ t y hy=>?_,h.tinj⟩⟩
 .have hst:Stay H w H w.drew:=λ b k e=>⟨k,e,Yd _,λ _ _=>rfl⟩
  rcases h.slot t x hx with hb|hr
  .exact .inl hb
  .exact .inr (RepV.stay hst _ _ hr)
 .have hst:Stay H w H w.drew:=λ b k e=>⟨k,e,Yd _,λ _ _=>rfl⟩
  obtain⟨h1,h2,vs,h3,h4⟩:=h.ent i e cs hi;exact⟨h1,h2,vs,h3,RepL.stay hst _ _ h4⟩
 .obtain⟨x,hx,hok⟩:=h.tail t y hy
  exact⟨x,hx,hok.keep λ _ _=>⟨rfl,rfl⟩⟩
variable (hW:∀w,Below B w0 w->W w)(hcall:∀f xs r y,call f xs=some (r,y)->AFn P W f xs r y)
include hW hcall
theorem Zxg {s:S.St}{a:Act}{w:World}(h:GamX B N w0 H0 s a w):W w:=by
 obtain⟨H,φ,h⟩:=h;exact hW w h.bel
theorem Zfs {ops:Array Oper}{Q:Exit->Act->World->Prop}:∀{l:List Oper} {i:Nat} {s s':S.St} {es:List (S.Eff×List Nat)},S.runOps P N call ops ep l i s=some (es,s')->(∀a w,GamX B N w0 H0 s' a w->Q .normal a w)->∀a w,GamX B N w0 H0 s a w->wpList P ops Q l a w
 | [],i,s,s',es,h,hQ,a,w,hG=>by
  simp only[S.runOps,Option.some.injEq,Prod.mk.injEq] at h;obtain⟨_,rfl⟩:=h;exact hQ a w hG
 | o::r,i,s,s',es,h,hQ,a,w,hG=>by
  unfold S.runOps at h
  split at h
  .cases h
  .rename_i e l he
   split at h
   .cases h
   .rename_i es' s2 hr
    simp only[Option.some.injEq,Prod.mk.injEq] at h;obtain⟨_,rfl⟩:=h;have hd:=Zoo hG (Zxg hW hcall hG) hcall he (wpList P ops Q r) Q λ a' w' hG'=>Zfs hr hQ a' w' hG'
    rw[wpList];rcases hd with⟨hw,hd⟩|⟨hw,hd⟩
    .rw[if_pos hw]
     exact .inl hd
    .rw[if_neg (by rw[hw];simp)]
     exact hd
omit hW hcall in
theorem Zlo:∀{l:List Oper} {i:Nat},S.depsOk l i=true->∀k o,l[k]?=some o->∀e∈o.after,Ybh .any e=true->e.on<i+k
 | [],i,h,k,o,hk=>by simp at hk
 | o'::r,i,h,k,o,hk=>by
  simp only[S.depsOk,Bool.and_eq_true] at h
  cases k with
  | zero =>
   simp at hk;subst hk;intro e he hb;have:=List.all_eq_true.1 h.1 e (Array.mem_toList_iff.2 he);simp only[hb,Bool.not_true,Bool.false_or] at this
   simpa using this
  | succ k =>
   intro e he hb;have:=Zlo h.2 k o (by simpa using hk) e he hb;omega
omit hW hcall in
theorem Zpo {ops:Array Oper}(hd:S.depsOk ops.toList 0=true){listed:Array Bool}(hn:listed.size=ops.size)(hr:Yap .any ops listed=[]):∀i,i<ops.size->listed.getD i false=true:=by
 intro i
 induction i using Yck with
 | _ i ih =>
  intro hi
  cases hl:listed.getD i false with
  | true=>rfl
  | false =>
   have ho:ops[i]?=some ops[i]:=Array.getElem?_eq_getElem hi;have hmem:i∈Yap .any ops listed:=mem_ready.2 ⟨getD_in (by omega) hl,_,ho,λ e he hb=>by
    have:=Zlo hd i ops[i] (by rw[Array.getElem?_toList];exact ho) e he hb;exact ih e.on (by omega) (by omega)⟩
   rw[hr] at hmem
   cases hmem
theorem Zpp {ops:Array Oper}{Q:Exit->Act->World->Prop}{s s':S.St}{es:List (S.Eff×List Nat)}(h:S.runOps P N call ops ep ops.toList 0 s=some (es,s'))(hd:S.depsOk ops.toList 0=true)(hA:S.apartB es (S.befs ops.toList []) 0=true)
 (hQ:∀a w,GamX B N w0 H0 s' a w->Q .normal a w):∀(fuel:Nat)(listed:Array Bool)(a:Act)(w:World),listed.size=ops.size->(∀i j,listed.getD i false=true->Yba .any ops i j=true->listed.getD j false=true) ->
  GamX B N w0 H0 (stL (λ k=>listed.getD k false) es 0 s) a w->listed.toList.countP (λ b=>!b)=fuel->wpAny P .any ops Q fuel listed a w:=by
 obtain⟨h1,h2,h3⟩:=Zhd h;have hlen:es.length=ops.size:=by rw[h1];simp
 have hbl:(S.befs ops.toList []).length=es.length:=by rw[Zhl,hlen];simp
 have hend:∀(listed:Array Bool)(a:Act)(w:World),(∀i,i<ops.size->listed.getD i false=true)->GamX B N w0 H0 (stL (λ k=>listed.getD k false) es 0 s) a w->Q .normal a w:=λ listed a w hall hG=>by
  refine hQ a w ?_;have e:stL (λ k=>listed.getD k false) es 0 s=s':=by
   rw[h2];refine Zxh λ r=>Zeu es 0 s s (same.refl _ _) λ k e l hk _=>?_
   rw[Yw];exact hall k (by rw[<- hlen];exact(List.getElem?_eq_some_iff.1 hk).1)
  rw[<- e];exact hG
 have bits:∀{L:Nat->Bool},(∀i j,L i=true->Yba .any ops i j=true->L j=true)->∀k b,(S.befs ops.toList [])[k]?=some b->(∀m,Yba .any ops k m=true->L m=true)->∀j,b.testBit j=true->L j=true:=λ {L} hcl k b hb hk j hj=>by
  have:=Zhm (ops:=ops) (C:=λ k j=>(∀m,Yba .any ops k m=true->L m=true)->L j=true) [] ops.toList [] rfl rfl (λ i b hb=>by simp at hb) (λ i j hij hall=>hall j hij)
   (λ i j k hij hjk hall=>hjk λ m hm=>hcl j m (hall j hij) hm) k b hb j hj
  exact this hk
 intro fuel
 induction fuel with
 | zero =>
  intro listed a w hn hcl hG hc;have hall:∀i,i<ops.size->listed.getD i false=true:=λ i hi=>by
   have hi':i<listed.size:=by omega
   cases hl:listed.getD i false with
   | true=>rfl
   | false =>
    exfalso
    have:0<listed.toList.countP (λ b=>!b):=List.countP_pos_iff.2 ⟨false,by
     have e:listed[i]=false:=by simpa[hi'] using hl
     rw[<- e];simp,rfl⟩
    omega
  refine⟨?_,hend listed a w hall hG⟩
  cases hr:Yap .any ops listed with
  | nil=>rfl
  | cons i r =>
   have hi:i∈Yap .any ops listed:=by rw[hr];exact List.mem_cons_self
   obtain⟨hun,o,ho,_⟩:=mem_ready.1 hi;have:=hall i (Yv.1 ho).1;rw[getD_both hun] at this
   cases this
 | succ fuel ih =>
  intro listed a w hn hcl hG hc;refine⟨λ hr=>hend listed a w (Zpo hd hn hr) hG,λ i hi=>?_⟩;obtain⟨hun,o,ho,hdeps⟩:=mem_ready.1 hi;have hun':=getD_both hun;have his:=(Yv.1 ho).1;have hil:i<listed.size:=by omega
  obtain⟨e,l,hei,hrun⟩:=h3 i o (by simpa using ho);have hw:∀m,Yba .any ops i m=true->listed.getD m false=true:=λ m hm=>by
   obtain⟨oi,hoi,e',he',hb,hon⟩:=Region.waitsFor_spec hm;rw[ho] at hoi
   cases hoi
   have:=hdeps e' he' hb;rw[hon] at this;exact this
  obtain⟨q1,q2⟩:=Zv7 (L:=λ k=>listed.getD k false) hA hbl (λ k b hb hL j hj=>bits hcl k b hb (λ m hm=>hcl k m hL hm) j hj) hei hun' (λ b hb j hj=>bits hcl i b hb hw j hj) s;have hrun':=Zga _ hrun (s':=stL (λ k=>listed.getD k false) es 0 s) (λ r hr=>by rw[Yw];exact q1 r hr);have hdo:=Zoo hG (Zxg hW hcall hG) hcall hrun' (wpAny P .any ops Q fuel (listed.setIfInBounds i true)) Q λ a' w' hG'=>ih _ a' w' (by rw[Array.size_setIfInBounds];exact hn) (λ k j hk hkj=>?_) ?_ ?_
  .unfold wpOp
   simp only[ho];rcases hdo with⟨hw',hdo⟩|⟨hw',hdo⟩
   .rw[if_pos hw']
    exact .inl hdo
   .rw[if_neg (by rw[hw'];simp)]
    exact hdo
  .by_cases c:k=i
   .subst c
    exact getD_set_true (hw j hkj)
   .rw[getD_set_ne false (Ne.symm c)] at hk
    exact getD_set_true (hcl k j hk hkj)
  .rw[<- q2] at hG'
   have e9:(λ k=>(listed.setIfInBounds i true).getD k false)=λ k=>if k=i then true else listed.getD k false:=by
    funext k
    by_cases c:k=i
    .subst c
     simp[hil]
    .rw[getD_set_ne false (Ne.symm c),if_neg c]
   rw[e9];exact hG'
  .rw[Array.toList_setIfInBounds,List.countP_set (by simpa using hil)]
   have e:listed.toList[i]'(by simpa using hil)=false:=by simpa[hil] using hun'
   have hp:0<listed.toList.countP (λ b=>!b):=List.countP_pos_iff.2 ⟨false,by rw[<- e];exact List.getElem_mem _,rfl⟩;simp only[e,Bool.not_false,if_true,Bool.not_true]
   first|omega | (simp only[Bool.false_eq_true,not_false_eq_true,if_true,if_false];omega)
theorem Zlp {id:Nat}{ops:Array Oper}{draw:Bool}{Q:Exit->Act->World->Prop}{s s':S.St}(h:S.regionA P N call ep ops draw s=some s')(hQ:∀a w,GamX B N w0 H0 s' a w->Q .normal a w){a:Act}{w:World}(hG:GamX B N w0 H0 s a w) :
 (Code.region id ops draw).wp P Q a w:=by
 unfold S.regionA at h
 split at h
 .cases h
 .rename_i es s2 hr
  cases draw with
  | false =>
   simp only[Bool.false_eq_true,if_false,Option.some.injEq] at h;subst h;exact wp_region_list (Zfs hW hcall hr hQ a w hG)
  | true =>
   simp only[if_true] at h
   split at h
   .rename_i hh
    obtain⟨hm,hd,hA⟩:=hh;simp only[Option.some.injEq] at h;subst h;refine wp_region_any hm (Zpp hW hcall hr hd hA hQ _ _ _ _ (by simp) (λ i j hi=>?_) ?_ (by simp[List.countP_replicate]))
    .rw[getD_replicate_false] at hi;cases hi
    .have e:stL (λ k=>(Ya6 ops.size false).getD k false) es 0 s=s:=by
      have key:∀(es:List (S.Eff×List Nat)) (k:Nat) (s:S.St),stL (λ k=>(Ya6 ops.size false).getD k false) es k s=s:=by
       intro es
       induction es with
       | nil=>intro k s;rfl
       | cons p es ih =>
        obtain⟨e1,l1⟩:=p;intro k s;rw[stL,getD_replicate_false,if_neg (by simp),ih]
      exact key es 0 s
     rw[e];exact hG.drew
   .cases h
end
namespace S
inductive AEx where
 | normal
 | exit (id:Nat)
 | ret
def AEx.to_:AEx->Exit
 | .normal=>.normal
 | .exit id=>.exit id
 | .ret=>.ret
def runCode (P:Program)(N:Nat)(call:FuncId->List AV->Option (AV×Tail)):Nat->Code->Nat->St->Option (AEx×Nat×St)
 | 0,_,_,_=>none
 | n+1,c,ep,s=>match c with
  | .skip=>some (.normal,ep,s)
  | .label _=>some (.normal,ep,s)
  | .ret=>some (.ret,ep,s)
  | .exit id=>some (.exit id,ep,s)
  | .region _ ops draw=>match regionA P N call ep ops draw s with
   | some s'=>some (.normal,ep+1,s')
   | none=>none
  | .seq x y=>match runCode P N call n x ep s with
   | some (.normal,ep',s')=>runCode P N call n y ep' s'
   | some (.exit id,ep',s')=>some (.exit id,ep',s')
   | some (.ret,ep',s')=>some (.ret,ep',s')
   | none=>none
  | .cond c x y=>match (evalA c).run s with
   | some (.bool true,_)=>runCode P N call n x ep s
   | some (.bool false,_)=>runCode P N call n y ep s
   | _=>none
  | .block id b=>match runCode P N call n b ep s with
   | some (.normal,ep',s')=>some (.normal,ep',s')
   | some (.exit id',ep',s')=>if id'=id then some (.normal,ep',s') else some (.exit id',ep',s')
   | some (.ret,ep',s')=>some (.ret,ep',s')
   | none=>none
  | .scope b=>runCode P N call n b ep s
  | .loop b=>match runCode P N call n b ep s with
   | some (.normal,ep',s')=>runCode P N call n (.loop b) ep' s'
   | some (.exit id,ep',s')=>some (.exit id,ep',s')
   | some (.ret,ep',s')=>some (.ret,ep',s')
   | none=>none
  | _=>none
end S
section
variable {P:Program}{B N:Nat}{w0:World}{H0:Zl}{W:World->Prop}{call:FuncId->List S.AV->Option (S.AV×S.Tail)}(hW:∀w,Below B w0 w->W w)(hcall:∀f xs r y,call f xs=some (r,y)->AFn P W f xs r y)
include hW hcall
theorem Zpq:∀(n:Nat)(c:Code)(ep ep':Nat)(s s':S.St)(ex:S.AEx),S.runCode P N call n c ep s=some (ex,ep',s')->∀(Q:Exit->Act->World->Prop),(∀a w,GamX B N w0 H0 s' a w->Q ex.to_ a w)->∀a w,GamX B N w0 H0 s a w->c.wp P Q a w:=by
 intro n
 induction n using Yck with
 | _ n ih =>
 intro c ep ep' s s' ex h Q hQ a w hG
 cases n with
 | zero=>simp[S.runCode] at h
 | succ n =>
 cases c with
 | skip =>
  simp only[S.runCode,Option.some.injEq,Prod.mk.injEq] at h;obtain⟨rfl,_,rfl⟩:=h;exact wp_skip (hQ a w hG)
 | label l =>
  simp only[S.runCode,Option.some.injEq,Prod.mk.injEq] at h;obtain⟨rfl,_,rfl⟩:=h;exact wp_label (hQ a w hG)
 | ret =>
  simp only[S.runCode,Option.some.injEq,Prod.mk.injEq] at h;obtain⟨rfl,_,rfl⟩:=h;exact wp_ret (hQ a w hG)
 | exit id =>
  simp only[S.runCode,Option.some.injEq,Prod.mk.injEq] at h;obtain⟨rfl,_,rfl⟩:=h;exact wp_exit (hQ a w hG)
 | region id ops draw =>
  simp only[S.runCode] at h
  split at h
  .rename_i s2 hr
   simp only[Option.some.injEq,Prod.mk.injEq] at h;obtain⟨rfl,_,rfl⟩:=h;exact Zlp hW hcall hr hQ hG
  .cases h
 | seq x y =>
  simp only[S.runCode] at h;refine wp_seq ?_
  split at h
  .rename_i e1 s1 hx
   exact ih n (Yav n) x ep _ s _ _ hx _ (λ a w hG'=>ih n (Yav n) y _ _ _ _ _ h Q hQ a w hG') a w hG
  .rename_i id e1 s1 hx
   simp only[Option.some.injEq,Prod.mk.injEq] at h;obtain⟨rfl,_,rfl⟩:=h;refine ih n (Yav n) x ep _ s _ _ hx _ (λ a w hG'=>?_) a w hG;exact hQ a w hG'
  .rename_i e1 s1 hx
   simp only[Option.some.injEq,Prod.mk.injEq] at h;obtain⟨rfl,_,rfl⟩:=h;refine ih n (Yav n) x ep _ s _ _ hx _ (λ a w hG'=>?_) a w hG;exact hQ a w hG'
  .cases h
 | cond c x y =>
  simp only[S.runCode] at h;have hbool:∀b l,(S.evalA c).run s=some (.bool b,l)->a.eval c=.bool b:=λ b l he=>by
   obtain⟨H,φ,hG⟩:=hG;rcases Zj hG he with⟨_,_,hq,_⟩|hv
   .cases hq
   .rw[RepV] at hv;exact hv
  split at h
  .rename_i l he
   exact wp_cond_true (hbool _ _ he) (ih n (Yav n) x ep _ s _ _ h Q hQ a w hG)
  .rename_i l he
   exact wp_cond_false (hbool _ _ he) (ih n (Yav n) y ep _ s _ _ h Q hQ a w hG)
  .cases h
 | block id b =>
  simp only[S.runCode] at h;refine wp_block ?_
  split at h
  .rename_i e1 s1 hx
   simp only[Option.some.injEq,Prod.mk.injEq] at h;obtain⟨rfl,_,rfl⟩:=h;refine ih n (Yav n) b ep _ s _ _ hx _ (λ a w hG'=>?_) a w hG;exact hQ a w hG'
  .rename_i id' e1 s1 hx
   split at h
   .rename_i hid
    simp only[Option.some.injEq,Prod.mk.injEq] at h;obtain⟨rfl,_,rfl⟩:=h;refine ih n (Yav n) b ep _ s _ _ hx _ (λ a w hG'=>?_) a w hG
    show Exit.inBlock id Q (.exit id') a w
    unfold Exit.inBlock;simp only[if_pos hid];exact hQ a w hG'
   .rename_i hid
    simp only[Option.some.injEq,Prod.mk.injEq] at h;obtain⟨rfl,_,rfl⟩:=h;refine ih n (Yav n) b ep _ s _ _ hx _ (λ a w hG'=>?_) a w hG
    show Exit.inBlock id Q (.exit id') a w
    unfold Exit.inBlock;simp only[if_neg hid];exact hQ a w hG'
  .rename_i e1 s1 hx
   simp only[Option.some.injEq,Prod.mk.injEq] at h;obtain⟨rfl,_,rfl⟩:=h;refine ih n (Yav n) b ep _ s _ _ hx _ (λ a w hG'=>?_) a w hG;exact hQ a w hG'
  .cases h
 | scope b =>
  simp only[S.runCode] at h;refine wp_scope_straight (ih n (Yav n) b ep _ s _ _ h _ (λ a w hG'=>?_) a w hG);have:=hQ a w hG'
  cases ex <;> exact this
 | loop b =>
  refine wp_loop_ghost (λ m a w=>m<=n+1/\∃ep s,GamX B N w0 H0 s a w/\S.runCode P N call m (.loop b) ep s=some (ex,ep',s')) (n+1) ⟨Yd _,ep,s,hG,h⟩ ?_;rintro m a w ⟨hm,ep1,s1,hG1,h1⟩
  cases m with
  | zero=>simp[S.runCode] at h1
  | succ m =>
   simp only[S.runCode] at h1
   split at h1
   .rename_i e2 s2 hx
    exact ih m (by omega) b ep1 _ s1 _ _ hx _ (λ a w hG'=>⟨m,Yav m,by omega,_,_,hG',h1⟩) a w hG1
   .rename_i id e2 s2 hx
    simp only[Option.some.injEq,Prod.mk.injEq] at h1;obtain⟨rfl,_,rfl⟩:=h1;refine ih m (by omega) b ep1 _ s1 _ _ hx _ (λ a w hG'=>?_) a w hG1;exact hQ a w hG'
   .rename_i e2 s2 hx
    simp only[Option.some.injEq,Prod.mk.injEq] at h1;obtain⟨rfl,_,rfl⟩:=h1;refine ih m (by omega) b ep1 _ s1 _ _ hx _ (λ a w hG'=>?_) a w hG1;exact hQ a w hG'
   .cases h1
 | rangeFunc f ps x y=>simp[S.runCode] at h
 | goto l=>simp[S.runCode] at h
 | refuse w=>simp[S.runCode] at h
end
end
section
namespace S
structure Sim (st st1:Vw):Prop where
 mem:st1.mem=st.mem
 reg:∀j,¬(4<=j/\j<=7)->st1.reg j=st.reg j
 inp:st1.inp=st.inp
 out:st1.out=st.out
mutual
def dE:BE->Nat
 | .mk _ _ _ kids=>dEs kids
def dEs:List BE->Nat
 | []=>0
 | e::r=>max (dE e) (dEs r+1)
end
def Yl (I:Img)(dep lk:Int)(env:List Int)(st:Vw)(e:BE)(x:Int)(K:Nat):Prop :=
 ∀(at_:Nat)(st1:Vw)(c:Nat)(Q H:Int->Vw->Nat->Prop),at_+dE e<=20->Sim st st1->(∀st2 c2,Sim st st2->c2<=c+K->Q x st2 c2)->wpE I dep lk env e at_ st1 c Q H
def Yls (I:Img)(dep lk:Int)(env:List Int)(st:Vw)(l:List BE)(xs:List Int)(K:Nat):Prop :=
 ∀(at_:Nat)(st1:Vw)(c:Nat)(Q:List Int->Vw->Nat->Prop)(H:Int->Vw->Nat->Prop),at_+dEs l<=20->Sim st st1->(∀st2 c2,Sim st st2->c2<=c+K->Q xs st2 c2)->wpEs I dep lk env l at_ st1 c Q H
def RetN (st:Vw)(x:Int)(K:Nat)(o:BO)(k:Nat):Prop:=∃st',o=.ret st'/\st'.reg 4=x/\Sim st st'/\k<=K
def Tells (I:Img)(name:ByteArray)(st:Vw)(xs:List Int)(d:Int)(x:Int)(K:Nat):Prop :=
 ∀st1,Sim st st1->Real I name false (st1.args xs) d (λ _ o k=>RetN st x K o k)
def WS (I:Img)(dep lk:Int)(behind:Bool)(l:List BS)(env:List Int)(st:Vw)(C:Nat)(Q:List Int->Vw->Nat->Prop)(R:BO->Nat->Prop):Prop :=
 ∀st1 c,Sim st st1->c<=C->wpSs I dep lk behind l env st1 c Q R
end S
theorem S.Sim.refl (st:S.Vw):S.Sim st st:=⟨rfl,λ _ _=>rfl,rfl,rfl⟩
theorem S.Sim.trans {a b c:S.Vw}(h:S.Sim a b)(k:S.Sim b c):S.Sim a c:=⟨k.mem.trans h.mem,λ j hj=>(k.reg j hj).trans (h.reg j hj),k.inp.trans h.inp,k.out.trans h.out⟩
theorem S.Sim.sto {a b:S.Vw}(h:S.Sim a b)(p x:Int):S.Sim (a.sto p x) (b.sto p x):=⟨by
 funext y
 show(if y=p then x else b.mem y)=if y=p then x else a.mem y
 rw[h.mem],h.reg,h.inp,h.out⟩
theorem S.Sim.set {a b:S.Vw}(h:S.Sim a b)(p x:Int):S.Sim (a.set p x) (b.set p x):=⟨h.mem,λ j hj=>by
 show(if j=p then x else b.reg j)=if j=p then x else a.reg j
 rw[h.reg j hj],h.inp,h.out⟩
theorem S.Sim.set4 {a b:S.Vw}(h:S.Sim a b)(x:Int):S.Sim a (b.set 4 x):=⟨h.mem,λ j hj=>by
 show(if j=4 then x else b.reg j)=_
 rw[if_neg (by omega)];exact h.reg j hj,h.inp,h.out⟩
theorem S.Sim.args {a b:S.Vw}(h:S.Sim a b){xs:List Int}(hl:xs.length<=4):S.Sim a (b.args xs):=⟨h.mem,λ j hj=>by
 show(if 4<=j/\j<4+(xs.length:Int) then _ else b.reg j)=_
 rw[if_neg (by omega)];exact h.reg j hj,h.inp,h.out⟩
section
variable {I:S.Img}{dep lk:Int}{env:List Int}{st:S.Vw}
theorem Za7 (n:Int):S.Yl I dep lk env st (eC n) (n%4294967296) 2:=λ at_ st1 c Q H _ hs h=>by
 rw[Z3c];exact h _ _ hs (Yd _)
theorem Zia (n:Int):S.Yl I dep lk env st (eL n) (env.getD n.toNat 0) 1:=λ at_ st1 c Q H _ hs h=>by
 rw[Z3d];exact h _ _ hs (Yd _)
theorem Z2g {n:Int}(hn:¬(4<=n/\n<=7)):S.Yl I dep lk env st (eR n) (st.reg n) 1:=λ at_ st1 c Q H _ hs h=>by
 rw[Z3e,hs.reg n hn];exact h _ _ hs (Yd _)
theorem Z4h:S.Yl I dep lk env st eK lk 1:=λ at_ st1 c Q H _ hs h=>by
 rw[Z3j];exact h _ _ hs (Yd _)
theorem S.Yl.to_ {e:S.BE}{x y:Int}{K K':Nat}(h:S.Yl I dep lk env st e x K)(hx:x=y)(hK:K<=K'):S.Yl I dep lk env st e y K':=λ at_ st1 c Q H ha hs hq=>by
 subst hx;exact h at_ st1 c Q H ha hs λ st2 c2 h2 hc=>hq st2 c2 h2 (by omega)
theorem Z31 (op n:Int)(nm:ByteArray)(a b:S.BE):S.dE (.mk op n nm [a,b])=max (S.dE a) (max (S.dE b) 1+1):=by
 rw[S.dE,S.dEs,S.dEs,S.dEs]
theorem Z4i (op n:Int)(nm:ByteArray)(a:S.BE):S.dE (.mk op n nm [a])=max (S.dE a) 1:=by
 rw[S.dE,S.dEs,S.dEs]
theorem Z26 {op:Int}{a b:S.BE}{x y:Int}{Ka Kb:Nat}(ho:y=0->op≠5/\op≠6)(ha:S.Yl I dep lk env st a x Ka)(hb:S.Yl I dep lk env st b y Kb):S.Yl I dep lk env st (eB op a b) (alu op x y) (Ka+Kb+1):=λ at_ st1 c Q H hat hs h=>by
 have hd:S.dE (eB op a b)=_:=Z31 _ _ _ a b;rw[hd] at hat;rw[Z3f];exact ha at_ st1 c _ _ (by omega) hs λ st2 c2 h2 hc2=>hb (at_+1) st2 c2 _ _ (by omega) h2 λ st3 c3 h3 hc3=>⟨ho,h st3 (c3+1) h3 (by omega)⟩
theorem Zc8 {op:Int}{a b:S.BE}{x y:Int}{Ka Kb:Nat}(ho:op≠5/\op≠6)(ha:S.Yl I dep lk env st a x Ka)(hb:S.Yl I dep lk env st b y Kb):S.Yl I dep lk env st (eB op a b) (alu op x y) (Ka+Kb+1):=Z26 (λ _=>ho) ha hb
theorem Zuk {a b:S.BE}{x y:Int}{Ka Kb:Nat}(ha:S.Yl I dep lk env st a x Ka)(hb:S.Yl I dep lk env st b y Kb):S.Yl I dep lk env st (eQ a b) (if x=y then 1 else 0) (Ka+Kb+3):=λ at_ st1 c Q H hat hs h=>by
 have hd:S.dE (eQ a b)=_:=Z31 _ _ _ a b;rw[hd] at hat;rw[Z3h];exact ha at_ st1 c _ _ (by omega) hs λ st2 c2 h2 hc2=>hb (at_+1) st2 c2 _ _ (by omega) h2 λ st3 c3 h3 hc3=>h st3 (c3+3) h3 (by omega)
theorem Z1a {a:S.BE}{n x p:Int}{K:Nat}(ha:S.Yl I dep lk env st a x K)(hp:u32m (x+n)=p)(hd:p<I.size/\¬I.stk p):S.Yl I dep lk env st (eM a n) (st.mem p) (K+1):=λ at_ st1 c Q H hat hs h=>by
 have hd2:S.dE (eM a n)=_:=Z4i _ _ _ a;rw[hd2] at hat;rw[Z3g];refine ha at_ st1 c _ _ (by omega) hs λ st2 c2 h2 hc2=>?_
 rw[hp];refine⟨hd.1,hd.2,?_⟩;rw[h2.mem];exact h st2 (c2+1) h2 (by omega)
theorem Zhe:S.Yls I dep lk env st [] [] 0:=λ at_ st1 c Q H _ hs h=>by
 rw[S.wpEs];exact h _ _ hs (Yd _)
theorem Zdn {e:S.BE}{r:List S.BE}{x:Int}{xs:List Int}{K L:Nat}(he:S.Yl I dep lk env st e x K)(hr:S.Yls I dep lk env st r xs L):S.Yls I dep lk env st (e::r) (x::xs) (K+L):=λ at_ st1 c Q H hat hs h=>by
 rw[S.dEs] at hat;rw[S.wpEs];exact he at_ st1 c _ _ (by omega) hs λ st2 c2 h2 hc2=>hr (at_+1) st2 c2 _ _ (by omega) h2 λ st3 c3 h3 hc3=>h st3 c3 h3 (by omega)
theorem Z2h {name:ByteArray}{l:List S.BE}{xs:List Int}{K L:Nat}{d x:Int}(hl:S.Yls I dep lk env st l xs K)(hlen:xs.length<=4)(hr:S.Tells I name st xs d x L)(hd:d<=dep):S.Yl I dep lk env st (eF name l) x (K+L+48):=λ at_ st1 c Q H hat hs h=>by
 have hd2:S.dE (eF name l)=S.dEs l:=by rw[eF,S.dE]
 rw[hd2] at hat;rw[Zyy];refine hl at_ st1 c _ _ hat hs λ st2 c2 h2 hc2=>?_
 refine⟨d,_,hr st2 h2,hd,λ ret o k ho=>?_⟩;obtain⟨st',rfl,h4,hs',hk⟩:=ho
 show Q (st'.reg 4) st' (c2+2*at_+xs.length+4+k)
 rw[h4];exact h st' _ hs' (by omega)
end
section
variable {I:S.Img}{dep lk:Int}{behind:Bool}{env:List Int}{st:S.Vw}{C:Nat}{Q:List Int->S.Vw->Nat->Prop}{R:S.BO->Nat->Prop}
theorem Zsp (h:∀st1 c,S.Sim st st1->c<=C->Q env st1 c):S.WS I dep lk behind [] env st C Q R:=λ st1 c hs hc=>by
 rw[Z1l];exact h st1 c hs hc
theorem Zv3 {r:List S.BS}(h:S.WS I dep lk behind r env st C Q R):S.WS I dep lk behind [] env st C (λ env st c=>S.wpSs I dep lk behind r env st c Q R) R:=Zsp λ st1 c hs hc=>h st1 c hs hc
theorem S.WS.more {l:List S.BS}{C':Nat}(h:S.WS I dep lk behind l env st C' Q R)(hc:C<=C'):S.WS I dep lk behind l env st C Q R:=λ st1 c hs h2=>h st1 c hs (by omega)
theorem Zpr {n:Int}{e:S.BE}{r:List S.BS}{x:Int}{K:Nat}(he:S.Yl I dep lk env st e x K)(hd:S.dE e<=20)(h:S.WS I dep lk behind r (env.set n.toNat x) st (C+K+1) Q R):S.WS I dep lk behind (sAs n e::r) env st C Q R:=λ st1 c hs hc=>by
 rw[Zdd,Zxm];exact he 0 st1 c _ _ (by omega) hs λ st2 c2 h2 hc2=>h st2 (c2+1) h2 (by omega)
theorem Z1b {n:Int}{e:S.BE}{r:List S.BS}{x:Int}{K:Nat}(he:S.Yl I dep lk env st e x K)(hd:S.dE e<=20)(h:S.WS I dep lk behind r env (st.set n x) (C+K+1) Q R):S.WS I dep lk behind (sSet n e::r) env st C Q R:=λ st1 c hs hc=>by
 rw[Zdd,Zy3];exact he 0 st1 c _ _ (by omega) hs λ st2 c2 h2 hc2=>h (st2.set n x) (c2+1) (h2.set n x) (by omega)
theorem Zsq {a e:S.BE}{n:Int}{r:List S.BS}{y x p:Int}{Ka Ke:Nat}(ha:S.Yl I dep lk env st a y Ka)(he:S.Yl I dep lk env st e x Ke)(hda:S.dE a<=20)(hd:S.dE e<=19)(hp:u32m (y+n)=p)(h1:p<I.size/\¬I.stk p/\¬I.code p)(h:S.WS I dep lk behind r env (st.sto p x) (C+Ka+Ke+1) Q R):S.WS I dep lk behind (sPut a n e::r) env st C Q R:=λ st1 c hs hc=>by
 rw[Zdd,Zyz];refine ha 0 st1 c _ _ (by omega) hs λ st2 c2 h2 hc2=>he 1 st2 c2 _ _ (by omega) h2 λ st3 c3 h3 hc3=>?_
 rw[hp];exact⟨h1.1,h1.2.1,h1.2.2,h (st3.sto p x) (c3+1) (h3.sto p x) (by omega)⟩
theorem Z27 {e:S.BE}{b l r:List S.BS}{x:Int}{K:Nat}(he:S.Yl I dep lk env st e x K)(hd:S.dE e<=20)(h0:x=0->S.WS I dep lk behind l env st (C+K+4) (λ env st c=>S.wpSs I dep lk behind r env st c Q R) R)
 (h1:x≠0->S.WS I dep lk behind b env st (C+K+4) (λ env st c=>S.wpSs I dep lk behind r env st (c+3) Q R) R):S.WS I dep lk behind (sIf e b l::r) env st C Q R:=λ st1 c hs hc=>by
 rw[Zdd,Z1m];refine he 0 st1 c _ _ (by omega) hs λ st2 c2 h2 hc2=>?_
 split
 .rename_i h;exact h0 h st2 _ h2 (by omega)
 .rename_i h;exact h1 h st2 _ h2 (by omega)
theorem Zbw {e:S.BE}{b r:List S.BS}{x:Int}{K:Nat}(he:S.Yl I dep lk env st e x K)(hd:S.dE e<=20)(h0:x=0->S.WS I dep lk behind r env st (C+K+4) Q R)
 (h1:x≠0->S.WS I dep lk behind b env st (C+K+4) (λ env st c=>S.wpSs I dep lk behind r env st (c+3) Q R) R):S.WS I dep lk behind (sWhen e b::r) env st C Q R:=Z27 he hd (λ h=>Zv3 (h0 h)) h1
theorem Z28 {e:S.BE}{b r:List S.BS}(hd:S.dE e<=20)(J:List Int->S.Vw->Nat->Nat->Prop){k0:Nat}(h0:J env st C k0)
 (hJ:∀env st C k,J env st C k->∃x K,S.Yl I dep lk env st e x K/\(x=0->S.WS I dep lk behind r env st (C+K+4) Q R) /\
  (x≠0->S.WS I dep lk behind b env st (C+K+4) (λ Zkn st2 c2=>∃k2,k2<k/\∃st3 C3,S.Sim st3 st2/\c2+3<=C3/\J Zkn st3 C3 k2) R)):S.WS I dep lk behind (sWh e b::r) env st C Q R:=λ st1 c hs hc=>by
 rw[Zdd,Z1n];refine⟨λ env st1 c k=>∃st C,S.Sim st st1/\c<=C/\J env st C k,⟨k0,st,C,hs,hc,h0⟩,λ env st1 c k h=>?_⟩;obtain⟨st,C,hs,hc,hj⟩:=h;obtain⟨x,K,he,h1,h2⟩:=hJ env st C k hj;refine he 0 st1 c _ _ (by omega) hs λ st2 c2 hs2 hc2=>?_
 split
 .rename_i h;exact h1 h st2 _ hs2 (by omega)
 .rename_i h;exact h2 h st2 _ hs2 (by omega)
theorem Zv4 {J:List Int->S.Vw->Nat->Nat->Prop}{k k2:Nat}(hk:k2<k)(h:J env st (C+3) k2):S.WS I dep lk behind [] env st C (λ Zkn st2 c2=>∃k2,k2<k/\∃st3 C3,S.Sim st3 st2/\c2+3<=C3/\J Zkn st3 C3 k2) R:=Zsp λ st1 c hs hc=>⟨k2,hk,st,C+3,hs,by omega,h⟩
theorem Zi4 {e:S.BE}{r:List S.BS}{x:Int}{K:Nat}(he:S.Yl I dep lk env st e x K)(hd:S.dE e<=20)(h:∀st2 c2,S.Sim st st2->c2<=C+K+6->R (.ret (st2.set 4 x)) c2):S.WS I dep lk behind (S.sVal e::r) env st C Q R:=λ st1 c hs hc=>by
 rw[Zdd,S.sVal,Zxn];exact he 0 st1 c _ _ (by omega) hs λ st2 c2 h2 hc2=>h st2 _ h2 (by split <;> omega)
theorem Zsr {e:S.BE}{r:List S.BS}{x:Int}{K:Nat}(he:S.Yl I dep lk env st e x K)(hd:S.dE e<=20)(h:∀st2 c2,S.Sim st st2->c2<=C+K+1->R (.halt x st2) c2):S.WS I dep lk behind (sHlt e::r) env st C Q R:=λ st1 c hs hc=>by
 rw[Zdd,Zy2];exact he 0 st1 c _ _ (by omega) hs λ st2 c2 h2 hc2=>h st2 _ h2 (by omega)
theorem Z29 {name:ByteArray}{l:List S.BE}{r:List S.BS}{xs:List Int}{K:Nat}{d:Int}{T:S.BO->Nat->Prop}(hl:S.Yls I dep lk env st l xs K)(hdl:S.dEs l<=20)(hlen:xs.length<=4)(hr:∀st1,S.Sim st st1->S.Real I name false (st1.args xs) d (λ _ o k=>T o k))(hd:d<=dep)
 (h:∀o k,T o k->match o with
  | .ret st2=>∀c,c<=C+K+k+14->R (.ret (st2.set 4 (st2.reg 4))) c
  | .halt code st2=>∀c,c<=C+K+k+14->R (.halt code st2) c
  | .left _ _=>False):S.WS I dep lk behind (S.sVal (eF name l)::r) env st C Q R:=λ st1 c hs hc=>by
 rw[Zdd,S.sVal,Zxn,Zyy];refine hl 0 st1 c _ _ (by omega) hs λ st2 c2 h2 hc2=>⟨d,_,hr st2 h2,hd,λ ret o k ho=>?_⟩
 have hh:=h o k ho
 cases o with
 | ret st3=>exact hh _ (by split <;> omega)
 | halt code st3=>exact hh _ (by omega)
 | left a b=>exact hh
theorem Z3a {name:ByteArray}{l:List S.BE}{r:List S.BS}{xs:List Int}{K:Nat}{d:Int}{T:S.BO->Nat->Prop}(hl:S.Yls I dep lk env st l xs K)(hdl:S.dEs l<=20)(hlen:xs.length<=4)(hr:∀st1,S.Sim st st1->S.Real I name false (st1.args xs) d (λ _ o k=>T o k))(hd:d<=dep)
 (h:∀o k,T o k->match o with
  | .ret st2=>S.WS I dep lk behind r env st2 (C+K+k+8) Q R
  | .halt code st2=>∀c,c<=C+K+k+8->R (.halt code st2) c
  | .left _ _=>False):S.WS I dep lk behind (sDo (eF name l)::r) env st C Q R:=λ st1 c hs hc=>by
 rw[Zdd,Z1o,Zyy];refine hl 0 st1 c _ _ (by omega) hs λ st2 c2 h2 hc2=>⟨d,_,hr st2 h2,hd,λ ret o k ho=>?_⟩
 have hh:=h o k ho
 cases o with
 | ret st3=>exact hh st3 _ (.refl st3) (by omega)
 | halt code st3=>exact hh _ (by omega)
 | left a b=>exact hh
theorem Zss (hI:I.Ok)(r:BR)(hc:chkB r=0){i:Nat}(hs:Seg I r.name i (bItems r)){dep:Int}(hdep:0<=dep)(st:S.Vw)(R:S.BO->Nat->Prop)
 (hw:∀(lk:Int)(env:List Int),(env.length:Int)=r.locals->(∀k:Nat,(k:Int)<r.params->env.getD k 0=st.reg (4+k))->S.WS I dep lk r.behind r.body env st 8 (λ _ st' c'=>R (.ret st') (c'+(if r.behind=true then 5 else 3))) R) :
 S.Real I r.name r.behind st (r.locals+15+dep) (λ _ o k=>R o k):=by
 have p4:=(Zb1 hc).2.2.1;exact Zx2 hI r hc hs hdep st _ λ lk env _ _ hl hp=>hw lk env hl hp st _ (.refl st) (by omega)
theorem Zj9 (hI:I.Ok)(r:BR)(hc:chkB r=0){i:Nat}(hs:Seg I r.name i (bItems r)){dep:Int}(hdep:0<=dep)(hb:r.behind=false){st:S.Vw}{xs:List Int}(hp:r.params=xs.length){x:Int}{K:Nat}
 (hw:∀(lk:Int)(env:List Int)(s1:S.Vw),(env.length:Int)=r.locals->(∀k:Nat,k<xs.length->env.getD k 0=xs.getD k 0)->S.Sim st s1->∀Q,S.WS I dep lk false r.body env s1 8 Q (S.RetN st x K)) :
 S.Tells I r.name st xs (r.locals+15+dep) x K:=λ st1 hs1=>by
 have p4:=(Zb1 hc).2.2.1;have h:=Zss hI r hc hs hdep (st1.args xs) (S.RetN st x K) λ lk env hl hpr=>by
  rw[hb];exact hw lk env (st1.args xs) hl (λ k hk=>by
   rw[hpr k (by omega)]
   show(if (4:Int)<=4+(k:Int)/\4+(k:Int)<4+(xs.length:Int) then xs.getD (4+(k:Int)-4).toNat 0 else _)=_
   rw[if_pos (by omega),show(4+(k:Int)-4).toNat=k by omega]) (hs1.args (by omega)) _
 rw[hb] at h;exact h
theorem Zst {s0:S.Vw}{e:S.BE}{r:List S.BS}{x:Int}{K N:Nat}(he:S.Yl I dep lk env st e x K)(hd:S.dE e<=20)(hs:S.Sim s0 st)(hN:C+K+6<=N):S.WS I dep lk behind (S.sVal e::r) env st C Q (S.RetN s0 x N):=Zi4 he hd λ st2 c2 h2 hc2=>⟨_,rfl,rfl,(hs.trans h2).set4 _,by omega⟩
end
end
