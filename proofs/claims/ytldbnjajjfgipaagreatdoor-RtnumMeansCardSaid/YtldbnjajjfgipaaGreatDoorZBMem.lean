/- Parts. -/
import Derived.Test.YtldbnjajjfgipaaGreatDoorZQg
import Derived.Scope
set_option linter.all false
open Nat renaming le_refl->Yb,lt_of_lt_of_le->Y3,zero_add->Yac,lt_succ_self->Yaw,strongRecOn->Ydd
open List renaming getElem?_eq_some_iff->Yg,length_cons->Yj,mem_cons->Yz,getElem?_cons_zero->Ya5,mapM_cons->Yds
open Array renaming getElem?_eq_some_iff->Yw,replicate->Yb3,mapM_eq_mapM_toList->Ydl
open Go.Result renaming andThen_ok->Y6
open Go.Sem renaming run_bind->Yah,run_pure->Yav
open Go.Region renaming ready->Ybi,waitsFor->Ybr,binds->Yb1
namespace Go.Proofs.YtldbnjajjfgipaaGreatDoor
open S Go.RowKit
section
namespace S
def runOps (P:Program)(N:Nat)(call:FuncId->List AV->Option (AV×Tail))(ops:Array Oper)(ep:Nat):List Oper->Nat->St->Option (List (Eff×List Nat)×St)
 | [],_,s=>some ([],s)
 | o::r,i,s=>match (effOp P N call ops (1000*ep+i) o).run s with
  | none=>none
  | some (e,l)=>match runOps P N call ops ep r (i+1) (e.apply s) with
   | none=>none
   | some (es,s')=>some ((e,l)::es,s')
def depsOk:List Oper->Nat->Bool
 | [],_=>true
 | o::r,i=>o.after.toList.all (λ e=>!Yb1 .any e || Nat.blt e.on i) && depsOk r (i+1)
def regionA (P:Program)(N:Nat)(call:FuncId->List AV->Option (AV×Tail))(ep:Nat)(ops:Array Oper)(draw:Bool)(s:St):Option St:=match runOps P N call ops ep ops.toList 0 s with
 | none=>none
 | some (es,s')=>if draw=true then(if P.follows .mixedOrders=true/\depsOk ops.toList 0=true/\apartB es (befs ops.toList []) 0=true then some s' else none) else some s'
end S
section
variable {P:Program}{B N:Nat}{w0:World}{H0:Zv}{W:World->Prop}{call:FuncId->List S.AV->Option (S.AV×S.Tail)}{ep:Nat}
theorem Zit {g:Array Oper}:∀{ops:List Oper} {i:Nat} {s s':S.St} {b:List (S.Eff×List Nat)},S.runOps P N call g ep ops i s=some (b,s') ->
 b.length=ops.length/\s'=stL (λ _=>true) b i s/\∀k o,ops[k]?=some o->∃e l,b[k]?=some (e,l)/\(S.effOp P N call g (1000*ep+(i+k)) o).run (stL (λ j=>decide (j<i+k)) b i s)=some (e,l)
 | [],i,s,s',b,h=>by
  simp only[S.runOps,Option.some.injEq,Prod.mk.injEq] at h;obtain⟨rfl,rfl⟩:=h;exact⟨rfl,rfl,λ k o c=>by simp at c⟩
 | o::r,i,s,s',b,h=>by
  unfold S.runOps at h
  split at h
  .cases h
  .rename_i e l he
   split at h
   .cases h
   .rename_i es' s2 hr
    simp only[Option.some.injEq,Prod.mk.injEq] at h;obtain⟨rfl,rfl⟩:=h;obtain⟨h1,h2,h3⟩:=Zit hr;refine⟨by rw[Yj,Yj,h1],by rw[stL,if_pos rfl];exact h2,λ k t c=>?_⟩
    cases k with
    | zero =>
     simp at c;subst c;refine⟨e,l,rfl,?_⟩;have m:stL (λ j=>decide (j<i+0)) ((e,l)::es') i s=s:=by
      have d:∀(b:List (S.Eff×List Nat)) (k:Nat) (s:S.St),i<=k->stL (λ j=>decide (j<i+0)) b k s=s:=by
       intro b
       induction b with
       | nil=>intro k s _;rfl
       | cons p b ih =>
        obtain⟨e1,l1⟩:=p;intro k s c;rw[stL,if_neg (by simp;omega),ih (k+1) s (by omega)]
      exact d _ i s (Yb _)
     rw[m];exact he
    | succ k =>
     obtain⟨q,u,n,v⟩:=h3 k t (by simpa using c);refine⟨q,u,by simpa using n,?_⟩;rw[stL,if_pos (by simp),show i+(k+1)=i+1+k by omega];exact v
theorem GamX.drew {s:S.St}{a:Act}{w:World}(h:GamX B N w0 H0 s a w):GamX B N w0 H0 s a w.drew:=by
 obtain⟨H,φ,h⟩:=h;refine⟨H,φ,⟨⟨h.bel.os,h.bel.tape,h.bel.output,h.bel.size,h.bel.block⟩,h.base,h.old,h.bnd,h.size,h.defs,λ t x c=>?_,λ i e cs hi=>?_,h.inj,λ t y l=>?_,h.tinj⟩⟩
 .have hst:Stay H w H w.drew:=λ b k e=>⟨k,e,Yb _,λ _ _=>rfl⟩
  rcases h.slot t x c with d|j
  .exact .inl d
  .exact .inr (RepV.stay hst _ _ j)
 .have hst:Stay H w H w.drew:=λ b k e=>⟨k,e,Yb _,λ _ _=>rfl⟩
  obtain⟨h1,h2,vs,h3,g⟩:=h.ent i e cs hi;exact⟨h1,h2,vs,h3,RepL.stay hst _ _ g⟩
 .obtain⟨x,c,hok⟩:=h.tail t y l
  exact⟨x,c,hok.keep λ _ _=>⟨rfl,rfl⟩⟩
variable (hW:∀w,Below B w0 w->W w)(hcall:∀f xs r y,call f xs=some (r,y)->AFn P W f xs r y)
include hW hcall
theorem Z08 {s:S.St}{a:Act}{w:World}(h:GamX B N w0 H0 s a w):W w:=by
 obtain⟨H,φ,h⟩:=h;exact hW w h.bel
theorem Zhk {ops:Array Oper}{Q:Exit->Act->World->Prop}:∀{l:List Oper} {i:Nat} {s s':S.St} {d:List (S.Eff×List Nat)},S.runOps P N call ops ep l i s=some (d,s')->(∀a w,GamX B N w0 H0 s' a w->Q .normal a w)->∀a w,GamX B N w0 H0 s a w->wpList P ops Q l a w
 | [],i,s,s',d,h,hQ,a,w,hG=>by
  simp only[S.runOps,Option.some.injEq,Prod.mk.injEq] at h;obtain⟨_,rfl⟩:=h;exact hQ a w hG
 | o::r,i,s,s',d,h,hQ,a,w,hG=>by
  unfold S.runOps at h
  split at h
  .cases h
  .rename_i e l he
   split at h
   .cases h
   .rename_i es' s2 hr
    simp only[Option.some.injEq,Prod.mk.injEq] at h;obtain⟨_,rfl⟩:=h;have b:=Zr7 hG (Z08 hW hcall hG) hcall he (wpList P ops Q r) Q λ j w' c=>Zhk hr hQ j w' c
    rw[wpList];rcases b with⟨g,b⟩|⟨g,b⟩
    .rw[if_pos g]
     exact .inl b
    .rw[if_neg (by rw[g];simp)]
     exact b
omit hW hcall in
theorem Znn:∀{l:List Oper} {i:Nat},S.depsOk l i=true->∀k o,l[k]?=some o->∀e∈o.after,Yb1 .any e=true->e.on<i+k
 | [],i,h,k,o,hk=>by simp at hk
 | o'::r,i,h,k,o,hk=>by
  simp only[S.depsOk,Bool.and_eq_true] at h
  cases k with
  | zero =>
   simp at hk;subst hk;intro e c b;have:=List.all_eq_true.1 h.1 e (Array.mem_toList_iff.2 c);simp only[b,Bool.not_true,Bool.false_or] at this
   simpa using this
  | succ k =>
   intro e c b;have:=Znn h.2 k o (by simpa using hk) e c b;omega
omit hW hcall in
theorem Zsm {ops:Array Oper}(g:S.depsOk ops.toList 0=true){b:Array Bool}(hn:b.size=ops.size)(h:Ybi .any ops b=[]):∀i,i<ops.size->b.getD i false=true:=by
 intro i
 induction i using Ydd with
 | _ i ih =>
  intro hi
  cases hl:b.getD i false with
  | true=>rfl
  | false =>
   have d:ops[i]?=some ops[i]:=Array.getElem?_eq_getElem hi;have c:i∈Ybi .any ops b:=mem_ready.2 ⟨getD_in (by omega) hl,_,d,λ e k j=>by
    have:=Znn g i ops[i] (by rw[Array.getElem?_toList];exact d) e k j;exact ih e.on (by omega) (by omega)⟩
   rw[h] at c
   cases c
theorem Zsn {ops:Array Oper}{Q:Exit->Act->World->Prop}{s s':S.St}{u:List (S.Eff×List Nat)}(h:S.runOps P N call ops ep ops.toList 0 s=some (u,s'))(hd:S.depsOk ops.toList 0=true)(hA:S.apartB u (S.befs ops.toList []) 0=true)
 (hQ:∀a w,GamX B N w0 H0 s' a w->Q .normal a w):∀(fuel:Nat)(d:Array Bool)(a:Act)(w:World),d.size=ops.size->(∀i j,d.getD i false=true->Ybr .any ops i j=true->d.getD j false=true) ->
  GamX B N w0 H0 (stL (λ k=>d.getD k false) u 0 s) a w->d.toList.countP (λ b=>!b)=fuel->wpAny P .any ops Q fuel d a w:=by
 obtain⟨h1,h2,h3⟩:=Zit h;have z:u.length=ops.size:=by rw[h1];simp
 have a3:(S.befs ops.toList []).length=u.length:=by rw[Zju,z];simp
 have x:∀(d:Array Bool)(a:Act)(w:World),(∀i,i<ops.size->d.getD i false=true)->GamX B N w0 H0 (stL (λ k=>d.getD k false) u 0 s) a w->Q .normal a w:=λ d a w g G=>by
  refine hQ a w ?_;have e:stL (λ k=>d.getD k false) u 0 s=s':=by
   rw[h2];refine Z1x λ r=>Zgl u 0 s s (same.refl _ _) λ k e l J _=>?_
   rw[Yac];exact g k (by rw[<- z];exact(Yg.1 J).1)
  rw[<- e];exact G
 have bits:∀{L:Nat->Bool},(∀i j,L i=true->Ybr .any ops i j=true->L j=true)->∀k b,(S.befs ops.toList [])[k]?=some b->(∀m,Ybr .any ops k m=true->L m=true)->∀j,b.testBit j=true->L j=true:=λ {L} n k b q J j U=>by
  have:=Zjv (ops:=ops) (C:=λ k j=>(∀m,Ybr .any ops k m=true->L m=true)->L j=true) [] ops.toList [] rfl rfl (λ i b q=>by simp at q) (λ i j I g=>g j I)
   (λ i j k I X g=>X λ m hm=>n j m (g j I) hm) k b q j U
  exact this J
 intro fuel
 induction fuel with
 | zero =>
  intro d a w Y n G hc;have g:∀i,i<ops.size->d.getD i false=true:=λ i hi=>by
   have a2:i<d.size:=by omega
   cases hl:d.getD i false with
   | true=>rfl
   | false =>
    exfalso
    have:0<d.toList.countP (λ b=>!b):=List.countP_pos_iff.2 ⟨false,by
     have e:d[i]=false:=by simpa[a2] using hl
     rw[<- e];simp,rfl⟩
    omega
  refine⟨?_,x d a w g G⟩
  cases V:Ybi .any ops d with
  | nil=>rfl
  | cons i r =>
   have hi:i∈Ybi .any ops d:=by rw[V];exact List.mem_cons_self
   obtain⟨F,o,K,_⟩:=mem_ready.1 hi;have:=g i (Yw.1 K).1;rw[getD_both F] at this
   cases this
 | succ fuel ih =>
  intro d a w Y n G hc;refine⟨λ V=>x d a w (Zsm hd Y V) G,λ i hi=>?_⟩;obtain⟨F,o,K,A⟩:=mem_ready.1 hi;have v:=getD_both F;have a4:=(Yw.1 K).1;have t:i<d.size:=by omega
  obtain⟨e,l,a0,M⟩:=h3 i o (by simpa using K);have hw:∀m,Ybr .any ops i m=true->d.getD m false=true:=λ m hm=>by
   obtain⟨oi,O,e',Z,q,a1⟩:=Region.waitsFor_spec hm;rw[K] at O
   cases O
   have:=A e' Z q;rw[a1] at this;exact this
  obtain⟨q1,q2⟩:=Z0r (L:=λ k=>d.getD k false) hA a3 (λ k b q hL j U=>bits n k b q (λ m hm=>n k m hL hm) j U) a0 v (λ b q j U=>bits n i b q hw j U) s;have E:=Zid _ M (s':=stL (λ k=>d.getD k false) u 0 s) (λ r V=>by rw[Yac];exact q1 r V);have p:=Zr7 G (Z08 hW hcall G) hcall E (wpAny P .any ops Q fuel (d.setIfInBounds i true)) Q λ a' w' T=>ih _ a' w' (by rw[Array.size_setIfInBounds];exact Y) (λ k j J R=>?_) ?_ ?_
  .unfold wpOp
   simp only[K];rcases p with⟨D,p⟩|⟨D,p⟩
   .rw[if_pos D]
    exact .inl p
   .rw[if_neg (by rw[D];simp)]
    exact p
  .by_cases c:k=i
   .subst c
    exact getD_set_true (hw j R)
   .rw[getD_set_ne false (Ne.symm c)] at J
    exact getD_set_true (n k j J R)
  .rw[<- q2] at T
   have e9:(λ k=>(d.setIfInBounds i true).getD k false)=λ k=>if k=i then true else d.getD k false:=by
    funext k
    by_cases c:k=i
    .subst c
     simp[t]
    .rw[getD_set_ne false (Ne.symm c),if_neg c]
   rw[e9];exact T
  .rw[Array.toList_setIfInBounds,List.countP_set (by simpa using t)]
   have e:d.toList[i]'(by simpa using t)=false:=by simpa[t] using v
   have hp:0<d.toList.countP (λ b=>!b):=List.countP_pos_iff.2 ⟨false,by rw[<- e];exact List.getElem_mem _,rfl⟩;simp only[e,Bool.not_false,if_true,Bool.not_true]
   first|omega | (simp only[Bool.false_eq_true,not_false_eq_true,if_true,if_false];omega)
theorem Zno {id:Nat}{ops:Array Oper}{b:Bool}{Q:Exit->Act->World->Prop}{s s':S.St}(h:S.regionA P N call ep ops b s=some s')(l:∀a w,GamX B N w0 H0 s' a w->Q .normal a w){a:Act}{w:World}(g:GamX B N w0 H0 s a w) :
 (Code.region id ops b).wp P Q a w:=by
 unfold S.regionA at h
 split at h
 .cases h
 .rename_i c s2 hr
  cases b with
  | false =>
   simp only[Bool.false_eq_true,if_false,Option.some.injEq] at h;subst h;exact wp_region_list (Zhk hW hcall hr l a w g)
  | true =>
   simp only[if_true] at h
   split at h
   .rename_i hh
    obtain⟨hm,m,hA⟩:=hh;simp only[Option.some.injEq] at h;subst h;refine wp_region_any hm (Zsn hW hcall hr m hA l _ _ _ _ (by simp) (λ i j hi=>?_) ?_ (by simp[List.countP_replicate]))
    .rw[getD_replicate_false] at hi;cases hi
    .have e:stL (λ k=>(Yb3 ops.size false).getD k false) c 0 s=s:=by
      have d:∀(c:List (S.Eff×List Nat)) (k:Nat) (s:S.St),stL (λ k=>(Yb3 ops.size false).getD k false) c k s=s:=by
       intro c
       induction c with
       | nil=>intro k s;rfl
       | cons p c ih =>
        obtain⟨e1,l1⟩:=p;intro k s;rw[stL,getD_replicate_false,if_neg (by simp),ih]
      exact d c 0 s
     rw[e];exact g.drew
   .cases h
end
namespace S
inductive AEx where
 | normal
 | exit (id:Nat)
 | ret
def AEx.to_:AEx->Exit
 | .normal=>.normal
 | .exit id=>.exit id
 | .ret=>.ret
def runCode (P:Program)(N:Nat)(call:FuncId->List AV->Option (AV×Tail)):Nat->Code->Nat->St->Option (AEx×Nat×St)
 | 0,_,_,_=>none
 | n+1,c,ep,s=>match c with
  | .skip=>some (.normal,ep,s)
  | .label _=>some (.normal,ep,s)
  | .ret=>some (.ret,ep,s)
  | .exit id=>some (.exit id,ep,s)
  | .region _ ops draw=>match regionA P N call ep ops draw s with
   | some s'=>some (.normal,ep+1,s')
   | none=>none
  | .seq x y=>match runCode P N call n x ep s with
   | some (.normal,ep',s')=>runCode P N call n y ep' s'
   | some (.exit id,ep',s')=>some (.exit id,ep',s')
   | some (.ret,ep',s')=>some (.ret,ep',s')
   | none=>none
  | .cond c x y=>match (evalA c).run s with
   | some (.bool true,_)=>runCode P N call n x ep s
   | some (.bool false,_)=>runCode P N call n y ep s
   | _=>none
  | .block id b=>match runCode P N call n b ep s with
   | some (.normal,ep',s')=>some (.normal,ep',s')
   | some (.exit id',ep',s')=>if id'=id then some (.normal,ep',s') else some (.exit id',ep',s')
   | some (.ret,ep',s')=>some (.ret,ep',s')
   | none=>none
  | .scope b=>runCode P N call n b ep s
  | .loop b=>match runCode P N call n b ep s with
   | some (.normal,ep',s')=>runCode P N call n (.loop b) ep' s'
   | some (.exit id,ep',s')=>some (.exit id,ep',s')
   | some (.ret,ep',s')=>some (.ret,ep',s')
   | none=>none
  | _=>none
end S
section
variable {P:Program}{B N:Nat}{w0:World}{H0:Zv}{W:World->Prop}{call:FuncId->List S.AV->Option (S.AV×S.Tail)}(hW:∀w,Below B w0 w->W w)(hcall:∀f xs r y,call f xs=some (r,y)->AFn P W f xs r y)
include hW hcall
theorem Zso:∀(n:Nat)(c:Code)(ep o:Nat)(s s':S.St)(t:S.AEx),S.runCode P N call n c ep s=some (t,o,s')->∀(Q:Exit->Act->World->Prop),(∀a w,GamX B N w0 H0 s' a w->Q t.to_ a w)->∀a w,GamX B N w0 H0 s a w->c.wp P Q a w:=by
 intro n
 induction n using Ydd with
 | _ n ih =>
 intro c ep o s s' t h Q g a w e
 cases n with
 | zero=>simp[S.runCode] at h
 | succ n =>
 cases c with
 | skip =>
  simp only[S.runCode,Option.some.injEq,Prod.mk.injEq] at h;obtain⟨rfl,_,rfl⟩:=h;exact wp_skip (g a w e)
 | label l =>
  simp only[S.runCode,Option.some.injEq,Prod.mk.injEq] at h;obtain⟨rfl,_,rfl⟩:=h;exact wp_label (g a w e)
 | ret =>
  simp only[S.runCode,Option.some.injEq,Prod.mk.injEq] at h;obtain⟨rfl,_,rfl⟩:=h;exact wp_ret (g a w e)
 | exit id =>
  simp only[S.runCode,Option.some.injEq,Prod.mk.injEq] at h;obtain⟨rfl,_,rfl⟩:=h;exact wp_exit (g a w e)
 | region id ops draw =>
  simp only[S.runCode] at h
  split at h
  .rename_i s2 hr
   simp only[Option.some.injEq,Prod.mk.injEq] at h;obtain⟨rfl,_,rfl⟩:=h;exact Zno hW hcall hr g e
  .cases h
 | seq x y =>
  simp only[S.runCode] at h;refine wp_seq ?_
  split at h
  .rename_i e1 j hx
   exact ih n (Yaw n) x ep _ s _ _ hx _ (λ a w d=>ih n (Yaw n) y _ _ _ _ _ h Q g a w d) a w e
  .rename_i id e1 j hx
   simp only[Option.some.injEq,Prod.mk.injEq] at h;obtain⟨rfl,_,rfl⟩:=h;refine ih n (Yaw n) x ep _ s _ _ hx _ (λ a w d=>?_) a w e;exact g a w d
  .rename_i e1 j hx
   simp only[Option.some.injEq,Prod.mk.injEq] at h;obtain⟨rfl,_,rfl⟩:=h;refine ih n (Yaw n) x ep _ s _ _ hx _ (λ a w d=>?_) a w e;exact g a w d
  .cases h
 | cond c x y =>
  simp only[S.runCode] at h;have i:∀b l,(S.evalA c).run s=some (.bool b,l)->a.eval c=.bool b:=λ b l q=>by
   obtain⟨H,φ,e⟩:=e;rcases Zt e q with⟨_,_,v,_⟩|u
   .cases v
   .rw[RepV] at u;exact u
  split at h
  .rename_i l q
   exact wp_cond_true (i _ _ q) (ih n (Yaw n) x ep _ s _ _ h Q g a w e)
  .rename_i l q
   exact wp_cond_false (i _ _ q) (ih n (Yaw n) y ep _ s _ _ h Q g a w e)
  .cases h
 | block id b =>
  simp only[S.runCode] at h;refine wp_block ?_
  split at h
  .rename_i e1 j hx
   simp only[Option.some.injEq,Prod.mk.injEq] at h;obtain⟨rfl,_,rfl⟩:=h;refine ih n (Yaw n) b ep _ s _ _ hx _ (λ a w d=>?_) a w e;exact g a w d
  .rename_i id' e1 j hx
   split at h
   .rename_i hid
    simp only[Option.some.injEq,Prod.mk.injEq] at h;obtain⟨rfl,_,rfl⟩:=h;refine ih n (Yaw n) b ep _ s _ _ hx _ (λ a w d=>?_) a w e
    show Exit.inBlock id Q (.exit id') a w
    unfold Exit.inBlock;simp only[if_pos hid];exact g a w d
   .rename_i hid
    simp only[Option.some.injEq,Prod.mk.injEq] at h;obtain⟨rfl,_,rfl⟩:=h;refine ih n (Yaw n) b ep _ s _ _ hx _ (λ a w d=>?_) a w e
    show Exit.inBlock id Q (.exit id') a w
    unfold Exit.inBlock;simp only[if_neg hid];exact g a w d
  .rename_i e1 j hx
   simp only[Option.some.injEq,Prod.mk.injEq] at h;obtain⟨rfl,_,rfl⟩:=h;refine ih n (Yaw n) b ep _ s _ _ hx _ (λ a w d=>?_) a w e;exact g a w d
  .cases h
 | scope b =>
  simp only[S.runCode] at h;refine wp_scope_straight (ih n (Yaw n) b ep _ s _ _ h _ (λ a w d=>?_) a w e);have:=g a w d
  cases t <;> exact this
 | loop b =>
  refine wp_loop_ghost (λ m a w=>m<=n+1/\∃ep s,GamX B N w0 H0 s a w/\S.runCode P N call m (.loop b) ep s=some (t,o,s')) (n+1) ⟨Yb _,ep,s,e,h⟩ ?_;rintro m a w ⟨hm,p,j,k,h1⟩
  cases m with
  | zero=>simp[S.runCode] at h1
  | succ m =>
   simp only[S.runCode] at h1
   split at h1
   .rename_i e2 s2 hx
    exact ih m (by omega) b p _ j _ _ hx _ (λ a w d=>⟨m,Yaw m,by omega,_,_,d,h1⟩) a w k
   .rename_i id e2 s2 hx
    simp only[Option.some.injEq,Prod.mk.injEq] at h1;obtain⟨rfl,_,rfl⟩:=h1;refine ih m (by omega) b p _ j _ _ hx _ (λ a w d=>?_) a w k;exact g a w d
   .rename_i e2 s2 hx
    simp only[Option.some.injEq,Prod.mk.injEq] at h1;obtain⟨rfl,_,rfl⟩:=h1;refine ih m (by omega) b p _ j _ _ hx _ (λ a w d=>?_) a w k;exact g a w d
   .cases h1
 | rangeFunc f ps x y=>simp[S.runCode] at h
 | goto l=>simp[S.runCode] at h
 | refuse w=>simp[S.runCode] at h
end
end
section
namespace S
def resultA (P:Program)(s:St):ResultVar->Option (AV×Tail)
 | .tmp t=>match s.sl t with
  | some v=>if v.free=true then some (v,s.tl t) else none
  | none=>none
 | .cell p t=>match s.sl p with
  | some (.box i off)=>match s.hp i with
   | some (_,cs)=>match loadA P t cs off with
    | some v=>some (v,none)
    | none=>none
   | none=>none
  | _=>none
def resultsA (P:Program)(s:St):List ResultVar->Option (List AV)
 | []=>some []
 | r::rs=>match resultA P s r,resultsA P s rs with
  | some (v,_),some vs=>some (v::vs)
  | _,_=>none
def initSt (xs:List AV):St:=⟨λ t=>xs[t]?,λ _=>none,λ _=>none⟩
def bodyA (P:Program)(call:FuncId->List AV->Option (AV×Tail))(cf:Nat)(fn:Func)(c:Code)(xs:List AV):Option (AV×Tail) :=
 if xs.length<=fn.ntmps then match runCode P fn.ntmps call cf c 0 (initSt xs) with
  | some (.exit _,_,_)=>none
  | some (_,_,s)=>match fn.results.toList with
   | [r]=>resultA P s r
   | rs=>match resultsA P s rs with
    | some vs=>if vs.length=1 then none else some (.tup vs,none)
    | none=>none
  | none=>none
 else none
def runFn (P:Program)(orc:FuncId->List AV->Option (AV×Tail))(cf:Nat):Nat->FuncId->List AV->Option (AV×Tail)
 | 0,_,_=>none
 | n+1,f,xs=>match orc f xs with
  | some r=>some r
  | none=>match P.funcs[f]? with
   | some fn=>match fn.body with
    | some c=>bodyA P (runFn P orc cf n) cf fn c xs
    | none=>none
   | none=>none
end S
def Zq7 (tmps:Array Value):ResultVar->Sem Value
 | .tmp t=>pure (tmps.getD t undef)
 | .cell p t=>do loadVar t (← asAddr (tmps.getD p undef))
theorem Zkr (fn:Func)(tmps:Array Value):results fn tmps=(do let vs ← fn.results.mapM (Zq7 tmps);pure (if h:vs.size=1 then vs[0] else .tuple vs)):=by
 unfold results
 congr
section
variable {P:Program}{B N:Nat}{w0:World}{H0:Zv}{s:S.St}{a:Act}{w:World}{H:Zv}{φ:Nat->Nat}
theorem Zks (g:Gam B N w0 H0 s a w H φ){r:ResultVar}{v:S.AV}{y:S.Tail}(h:S.resultA P s r=some (v,y)) :
 ∃u,(Zq7 a.tmps r).run P w=.ok u w/\RepV H w v u/\∀z,y=some z->TailOk H w B z v u:=by
 cases r with
 | tmp t =>
  simp only[S.resultA] at h
  split at h
  .rename_i x hx
   split at h
   .rename_i hf
    simp only[Option.some.injEq,Prod.mk.injEq] at h;obtain⟨rfl,rfl⟩:=h;refine⟨_,rfl,Zr5 (g.slot t _ hx) hf,λ z j=>?_⟩;obtain⟨x',c,k⟩:=g.tail t z j;rw[hx] at c
    cases c
    exact k
   .cases h
  .cases h
 | cell p t =>
  simp only[S.resultA] at h
  split at h
  .rename_i i off hx
   split at h
   .rename_i e cs hcs
    split at h
    .rename_i v' hv
     simp only[Option.some.injEq,Prod.mk.injEq] at h;obtain⟨rfl,rfl⟩:=h;rcases g.slot p _ hx with⟨i',m,hi,n,hp⟩|l
     .cases hi
      obtain⟨_,_,vs,h1,h2⟩:=g.ent i e cs hcs;obtain⟨u,b,d⟩:=Zr6 (off:=off) (q:=0) (Zhy h1) h2 hv;refine⟨u,?_,d,λ z j=>by cases j⟩;rw[Yac] at b;simp only[Instr.loadAt,Instr.sureAddr,Yah,Yav,Y6] at b;simp only[Zq7,hp,asAddr,Yah,Yav,Y6,b]
     .rw[RepV] at l;exact l.elim
    .cases h
   .cases h
  .cases h
theorem Ziu (e:Gam B N w0 H0 s a w H φ):∀{rs:List ResultVar} {xs:List S.AV},S.resultsA P s rs=some xs->∃vs,(rs.mapM (Zq7 a.tmps)).run P w=.ok vs w/\RepT H w xs vs
 | [],xs,h=>by
  simp only[S.resultsA,Option.some.injEq] at h;subst h;exact⟨[],rfl,by rw[RepT]⟩
 | r::rs,xs,h=>by
  unfold S.resultsA at h
  split at h
  .rename_i v y vs h1 h2
   cases h
   obtain⟨u,i,c,_⟩:=Zks e h1;obtain⟨g,d,b⟩:=Ziu e h2;refine⟨u::g,?_,by rw[RepT];exact⟨u,g,rfl,c,b⟩⟩;rw[Yds];simp only[Yah,i,Y6,d,Yav]
  .cases h
theorem Zy1 {fn:Func}{xs:List S.AV}{vs:List Value}(hn:xs.length<=fn.ntmps)(l:∀b k,H b=some k->Bk w b)(h:RepT H w xs vs) :
 Gam w.heap.size fn.ntmps w H (S.initSt xs) { tmps:=vs.toArray++Yb3 (fn.ntmps-vs.toArray.size) undef,defers:=[] } w H (λ _=>0):=by
 have hl:=RepT.length h;refine⟨Below.refl _ _,Yb _,λ _ _=>rfl,l,by simp;omega,rfl,λ t x o=>.inr ?_,λ i e cs hi=>by simp[S.initSt] at hi,λ i j hi=>by simp[S.initSt] at hi,λ t y n=>by simp[S.initSt] at n,λ t t' _ m=>by simp[S.initSt] at m⟩;obtain⟨v,g,c⟩:=RepT.at_ h (show xs[t]?=some x from o);have e:({ tmps:=vs.toArray++Yb3 (fn.ntmps-vs.toArray.size) undef,defers:=[] }:Act).tmps.getD t undef=v:=by
  have d:=(Yg.1 g).1;simp only[Array.getD_eq_getD_getElem?];rw[Array.getElem?_append_left (by simpa using d)];simp[g]
 rw[e];exact c
theorem Zsp {W:World->Prop}(m:∀w w',W w->Below w.heap.size w w'->W w'){call:FuncId->List S.AV->Option (S.AV×S.Tail)}(hcall:∀f xs r y,call f xs=some (r,y)->AFn P W f xs r y){x:Nat}{f:FuncId}{fn:Func}{c:Code}
 (hf:P.funcs[f]?=some fn) (G:fn.body=some c) {xs:List S.AV} {r:S.AV} {y:S.Tail} (h:S.bodyA P call x fn c xs=some (r,y)):AFn P W f xs r y:=by
 intro H w vs l p j;unfold S.bodyA at h
 split at h
 .rename_i hn
  refine calls_of_wp hf G ?_;have E:=Zy1 (fn:=fn) hn l j;have fin:∀(s:S.St)(a:Act)(w':World),GamX w.heap.size fn.ntmps w H s a w'->(match fn.results.toList with | [q]=>S.resultA P s q|rs=>match S.resultsA P s rs with|some us=>if us.length=1 then none else some (.tup us,none) | none=>none)=some (r,y) ->
   a.defers=[]/\∃v,(results fn a.tmps).run P w'=.ok v w'/\∃n i,Ending.returned v=.returned n/\Below w.heap.size w w'/\(∀b,b<w.heap.size->i b=H b)/\(∀b k,i b=some k->Bk w' b)/\RepV i w' r n/\∀z,y=some z->TailOk i w' w.heap.size z r n:=by
   rintro s a w' ⟨i,φ,g⟩ d;refine⟨g.defs,?_⟩
   split at d
   .rename_i q hq
    obtain⟨u,C,I,D⟩:=Zks g d;have e:fn.results=#[q]:=by rw[<- Array.toArray_toList (xs:=fn.results),hq]
    refine⟨u,?_,u,i,rfl,g.bel,g.old,g.bnd,I,D⟩;rw[Zkr,Yah,Ydl,hq,Yds,List.mapM_nil];simp only[Yah,Sem.run_map,C,Y6,Yav];rfl
   .rename_i hne
    split at d
    .rename_i us hus
     split at d
     .cases d
     .rename_i h1
      simp only[Option.some.injEq,Prod.mk.injEq] at d;obtain⟨rfl,rfl⟩:=d;obtain⟨ws,o,t⟩:=Ziu g hus;have J:=RepT.length t;refine⟨.tuple ws.toArray,?_,_,i,rfl,g.bel,g.old,g.bnd,by rw[RepV];exact⟨ws,rfl,t⟩,λ z F=>by cases F⟩;rw[Zkr,Yah,Ydl];simp only[Sem.run_map,o,Y6,Yav];rw[dif_neg];rw[List.size_toArray,J];exact h1
    .cases d
  split at h
  .cases h
  .rename_i ex ep s hne hcode
   refine Zso (W:=W) (λ w' A=>m w w' p A) hcall x c 0 ep _ s ex hcode _ (λ a w' g=>?_) _ w ⟨H,_,E⟩;have:=fin s a w' g h
   cases ex with
   | normal=>exact this
   | ret=>exact this
   | exit id=>exact(hne _ rfl).elim
  .cases h
 .cases h
theorem Zls {W:World->Prop}(d:∀w w',W w->Below w.heap.size w w'->W w'){e:FuncId->List S.AV->Option (S.AV×S.Tail)}(b:∀f xs r y,e f xs=some (r,y)->AFn P W f xs r y){g:Nat} :
 ∀(n:Nat)(f:FuncId)(xs:List S.AV)(r:S.AV)(y:S.Tail),S.runFn P e g n f xs=some (r,y)->AFn P W f xs r y
 | 0,f,xs,r,y,h=>by simp[S.runFn] at h
 | n+1,f,xs,r,y,h=>by
  unfold S.runFn at h
  split at h
  .rename_i q hq
   cases h
   exact b f xs r y hq
  .split at h
   .rename_i fn hf
    split at h
    .rename_i c hc
     exact Zsp d (λ f xs r y h=>Zls d b n f xs r y h) hf hc h
    .cases h
   .cases h
end
end
mutual
def ECell (w:World)(B b o:Nat):BE->Prop
 | .mk op n name kids=>w.cell? ⟨b,o,none⟩=some (.int .i64 op)/\w.cell? ⟨b,o+1,none⟩=some (.int .i64 n)/\w.cell? ⟨b,o+2,none⟩=some (.string name)/\name.size<=maxLen/\kids.length<=maxLen /\
  ∃A c,w.cell? ⟨b,o+3,none⟩=some (.slice A kids.length c)/\(kids=[]\/∃b' off,A=some ⟨b',off,none⟩/\b'<B/\EKids w B b' off kids)
def EKids (w:World)(B b o:Nat):List BE->Prop
 | []=>True
 | e::r=>ECell w B b o e/\EKids w B b (o+4) r
end
def EList (w:World)(B:Nat)(A:Option Addr)(l:List BE):Prop:=l=[]\/∃b off,A=some ⟨b,off,none⟩/\b<B/\EKids w B b off l
def Z71 (w:World)(B:Nat)(e:BE)(v:Value):Prop :=
 ∃A c,v=.agg #[.int .i64 e.op,.int .i64 e.n,.string e.name,.slice A e.kids.length c]/\e.name.size<=maxLen/\e.kids.length<=maxLen/\EList w B A e.kids
mutual
theorem ECell.below {w w':World}{B b o:Nat}(g:Below B w w')(d:b<B):∀{e:BE},ECell w B b o e->ECell w' B b o e
 | .mk op n name kids,h=>by
  rw[ECell] at h⊢;obtain⟨h1,h2,h3,q,t,A,c,m,j⟩:=h;refine⟨(g.cell (p:=⟨b,_,none⟩) d).trans h1,(g.cell (p:=⟨b,_,none⟩) d).trans h2,(g.cell (p:=⟨b,_,none⟩) d).trans h3,q,t,A,c,(g.cell (p:=⟨b,_,none⟩) d).trans m,?_⟩;rcases j with j|⟨l,off,u,k,i⟩
  .exact .inl j
  .exact .inr ⟨l,off,u,k,EKids.below g k i⟩
theorem EKids.below {w w':World}{B b o:Nat}(d:Below B w w')(c:b<B):∀{l:List BE},EKids w B b o l->EKids w' B b o l
 | [],_=>by rw[EKids];trivial
 | e::r,h=>by
  rw[EKids] at h⊢;exact⟨ECell.below d c h.1,EKids.below d c h.2⟩
end
mutual
theorem ECell.more {w:World}{B B' b o:Nat}(i:B<=B'):∀{e:BE},ECell w B b o e->ECell w B' b o e
 | .mk op n name kids,h=>by
  rw[ECell] at h⊢;obtain⟨h1,h2,h3,l,p,A,c,k,g⟩:=h;refine⟨h1,h2,h3,l,p,A,c,k,?_⟩;rcases g with g|⟨j,off,q,m,d⟩
  .exact .inl g
  .exact .inr ⟨j,off,q,Y3 m i,EKids.more i d⟩
theorem EKids.more {w:World}{B B' b o:Nat}(c:B<=B'):∀{l:List BE},EKids w B b o l->EKids w B' b o l
 | [],_=>by rw[EKids];trivial
 | e::r,h=>by
  rw[EKids] at h⊢;exact⟨ECell.more c h.1,EKids.more c h.2⟩
end
theorem EList.below {w w':World}{B:Nat}{A:Option Addr}{l:List BE}(h:EList w B A l)(c:Below B w w'):EList w' B A l:=by
 rcases h with h|⟨b,off,h1,h2,h3⟩
 .exact .inl h
 .exact .inr ⟨b,off,h1,h2,h3.below c h2⟩
theorem EList.more {w:World}{B B':Nat}{A:Option Addr}{l:List BE}(h:EList w B A l)(c:B<=B'):EList w B' A l:=by
 rcases h with h|⟨b,off,h1,h2,h3⟩
 .exact .inl h
 .exact .inr ⟨b,off,h1,Y3 h2 c,h3.more c⟩
theorem EKids.at_ {w:World}{B b:Nat}:∀{l:List BE} {o k:Nat} {e:BE},EKids w B b o l->l[k]?=some e->ECell w B b (o+k*4) e
 | [],o,k,e,_,h=>by simp at h
 | x::r,o,0,e,hk,h=>by
  rw[EKids] at hk;simp only[Ya5,Option.some.injEq] at h;subst h
  simpa using hk.1
 | x::r,o,k+1,e,hk,h=>by
  rw[EKids] at hk;have:=EKids.at_ hk.2 (k:=k) (by simpa using h);have c:o+4+k*4=o+(k+1)*4:=by omega
  rw[c] at this;exact this
theorem EList.at_ {w:World}{B:Nat}{A:Option Addr}{l:List BE}(h:EList w B A l){k:Nat}{e:BE}(g:l[k]?=some e) :
 ∃b off c d,A=some ⟨b,off,none⟩/\b<B/\w.cell? ⟨b,off+k*4,none⟩=some (.int .i64 e.op)/\w.cell? ⟨b,off+k*4+1,none⟩=some (.int .i64 e.n)/\w.cell? ⟨b,off+k*4+2,none⟩=some (.string e.name) /\
  w.cell? ⟨b,off+k*4+3,none⟩=some (.slice c e.kids.length d)/\e.name.size<=maxLen/\e.kids.length<=maxLen/\EList w B c e.kids:=by
 rcases h with h|⟨b,off,h1,h2,h3⟩
 .subst h;simp at g
 .have h4:=h3.at_ g
  obtain⟨op,n,name,kids⟩:=e;rw[ECell] at h4;obtain⟨j,p,t,q,m,c,d,o,i⟩:=h4;exact⟨b,off,c,d,h1,h2,j,p,t,o,q,m,i⟩
mutual
def SCell (w:World)(B b o:Nat):BS->Prop
 | .mk op n name exprs regs body els=>w.cell? ⟨b,o,none⟩=some (.int .i64 op)/\w.cell? ⟨b,o+1,none⟩=some (.int .i64 n)/\w.cell? ⟨b,o+2,none⟩=some (.string name)/\name.size<=maxLen/\exprs.length<=maxLen/\regs.length<=maxLen/\body.length<=maxLen/\els.length<=maxLen /\
  (∃A c,w.cell? ⟨b,o+3,none⟩=some (.slice A exprs.length c)/\EList w B A exprs)/\(∃A c,w.cell? ⟨b,o+4,none⟩=some (.slice A regs.length c)/\Ints w B A regs) /\
  (∃A c,w.cell? ⟨b,o+5,none⟩=some (.slice A body.length c)/\(body=[]\/∃b' off,A=some ⟨b',off,none⟩/\b'<B/\SKids w B b' off body)) /\
  (∃A c,w.cell? ⟨b,o+6,none⟩=some (.slice A els.length c)/\(els=[]\/∃b' off,A=some ⟨b',off,none⟩/\b'<B/\SKids w B b' off els))
def SKids (w:World)(B b o:Nat):List BS->Prop
 | []=>True
 | s::r=>SCell w B b o s/\SKids w B b (o+7) r
end
def SList (w:World)(B:Nat)(A:Option Addr)(l:List BS):Prop:=l=[]\/∃b off,A=some ⟨b,off,none⟩/\b<B/\SKids w B b off l
mutual
theorem SCell.below {w w':World}{B b o:Nat}(d:Below B w w')(c:b<B):∀{s:BS},SCell w B b o s->SCell w' B b o s
 | .mk op n name exprs regs body els,h=>by
  rw[SCell] at h⊢;obtain⟨h1,h2,h3,l,v,i,m,z,⟨x,c1,u,t⟩,⟨j,c2,b1,b2⟩,⟨k,c3,d1,d2⟩,⟨g,c4,q,e⟩⟩:=h;refine⟨(d.cell (p:=⟨b,_,none⟩) c).trans h1,(d.cell (p:=⟨b,_,none⟩) c).trans h2,(d.cell (p:=⟨b,_,none⟩) c).trans h3,l,v,i,m,z,⟨x,c1,(d.cell (p:=⟨b,_,none⟩) c).trans u,t.below d⟩,
   ⟨j,c2,(d.cell (p:=⟨b,_,none⟩) c).trans b1,b2.below d⟩,⟨k,c3,(d.cell (p:=⟨b,_,none⟩) c).trans d1,?_⟩,⟨g,c4,(d.cell (p:=⟨b,_,none⟩) c).trans q,?_⟩⟩
  .rcases d2 with d2|⟨b',off,q1,q2,q3⟩
   .exact .inl d2
   .exact .inr ⟨b',off,q1,q2,SKids.below d q2 q3⟩
  .rcases e with e|⟨b',off,q1,q2,q3⟩
   .exact .inl e
   .exact .inr ⟨b',off,q1,q2,SKids.below d q2 q3⟩
theorem SKids.below {w w':World}{B b o:Nat}(d:Below B w w')(c:b<B):∀{l:List BS},SKids w B b o l->SKids w' B b o l
 | [],_=>by rw[SKids];trivial
 | e::r,h=>by
  rw[SKids] at h⊢;exact⟨SCell.below d c h.1,SKids.below d c h.2⟩
end
mutual
theorem SCell.more {w:World}{B B' b o:Nat}(c:B<=B'):∀{s:BS},SCell w B b o s->SCell w B' b o s
 | .mk op n name exprs regs body els,h=>by
  rw[SCell] at h⊢;obtain⟨h1,h2,h3,k,t,g,l,v,⟨u,c1,q,p⟩,⟨i,c2,b1,b2⟩,⟨j,c3,d1,d2⟩,⟨e,c4,m,d⟩⟩:=h;refine⟨h1,h2,h3,k,t,g,l,v,⟨u,c1,q,p.more c⟩,⟨i,c2,b1,b2.more c⟩,⟨j,c3,d1,?_⟩,⟨e,c4,m,?_⟩⟩
  .rcases d2 with d2|⟨b',off,q1,q2,q3⟩
   .exact .inl d2
   .exact .inr ⟨b',off,q1,Y3 q2 c,SKids.more c q3⟩
  .rcases d with d|⟨b',off,q1,q2,q3⟩
   .exact .inl d
   .exact .inr ⟨b',off,q1,Y3 q2 c,SKids.more c q3⟩
theorem SKids.more {w:World}{B B' b o:Nat}(c:B<=B'):∀{l:List BS},SKids w B b o l->SKids w B' b o l
 | [],_=>by rw[SKids];trivial
 | e::r,h=>by
  rw[SKids] at h⊢;exact⟨SCell.more c h.1,SKids.more c h.2⟩
end
theorem SList.below {w w':World}{B:Nat}{A:Option Addr}{l:List BS}(h:SList w B A l)(c:Below B w w'):SList w' B A l:=by
 rcases h with h|⟨b,off,h1,h2,h3⟩
 .exact .inl h
 .exact .inr ⟨b,off,h1,h2,h3.below c h2⟩
theorem SList.more {w:World}{B B':Nat}{A:Option Addr}{l:List BS}(h:SList w B A l)(c:B<=B'):SList w B' A l:=by
 rcases h with h|⟨b,off,h1,h2,h3⟩
 .exact .inl h
 .exact .inr ⟨b,off,h1,Y3 h2 c,h3.more c⟩
theorem SKids.at_ {w:World}{B b:Nat}:∀{l:List BS} {o k:Nat} {s:BS},SKids w B b o l->l[k]?=some s->SCell w B b (o+k*7) s
 | [],o,k,e,_,h=>by simp at h
 | x::r,o,0,e,hk,h=>by
  rw[SKids] at hk;simp only[Ya5,Option.some.injEq] at h;subst h
  simpa using hk.1
 | x::r,o,k+1,e,hk,h=>by
  rw[SKids] at hk;have:=SKids.at_ hk.2 (k:=k) (by simpa using h);have c:o+7+k*7=o+(k+1)*7:=by omega
  rw[c] at this;exact this
structure SPart (w:World)(B:Nat)(s:BS)(A1 A2 A3 A4:Option Addr):Prop where
 name:s.name.size<=maxLen
 l1:s.exprs.length<=maxLen
 l2:s.regs.length<=maxLen
 l3:s.body.length<=maxLen
 l4:s.els.length<=maxLen
 exprs:EList w B A1 s.exprs
 regs:Ints w B A2 s.regs
 body:SList w B A3 s.body
 els:SList w B A4 s.els
theorem SPart.below {w w':World}{B:Nat}{s:BS}{c g e d:Option Addr}(h:SPart w B s c g e d)(b:Below B w w'):SPart w' B s c g e d :=
 ⟨h.name,h.l1,h.l2,h.l3,h.l4,h.exprs.below b,h.regs.below b,h.body.below b,h.els.below b⟩
theorem SPart.more {w:World}{B B':Nat}{s:BS}{c g e d:Option Addr}(h:SPart w B s c g e d)(b:B<=B'):SPart w B' s c g e d :=
 ⟨h.name,h.l1,h.l2,h.l3,h.l4,h.exprs.more b,h.regs.more b,h.body.more b,h.els.more b⟩
def sVal (s:BS)(A1 A2 A3 A4:Option Addr)(c1 c2 c3 c4:Nat):List Value :=
 [.int .i64 s.op,.int .i64 s.n,.string s.name,.slice A1 s.exprs.length c1,.slice A2 s.regs.length c2,.slice A3 s.body.length c3,.slice A4 s.els.length c4]
theorem SList.at_ {w:World}{B:Nat}{A:Option Addr}{l:List BS}(h:SList w B A l){k:Nat}{s:BS}(i:l[k]?=some s) :
 ∃b off g c1 d c2 e c3 c c4,A=some ⟨b,off,none⟩/\b<B/\w.cell? ⟨b,off+k*7,none⟩=some (.int .i64 s.op)/\w.cell? ⟨b,off+k*7+1,none⟩=some (.int .i64 s.n)/\w.cell? ⟨b,off+k*7+2,none⟩=some (.string s.name) /\
  w.cell? ⟨b,off+k*7+3,none⟩=some (.slice g s.exprs.length c1)/\w.cell? ⟨b,off+k*7+4,none⟩=some (.slice d s.regs.length c2)/\w.cell? ⟨b,off+k*7+5,none⟩=some (.slice e s.body.length c3) /\
  w.cell? ⟨b,off+k*7+6,none⟩=some (.slice c s.els.length c4)/\SPart w B s g d e c:=by
 rcases h with h|⟨b,off,h1,h2,h3⟩
 .subst h;simp at i
 .have h4:=h3.at_ i
  obtain⟨op,n,name,exprs,regs,body,els⟩:=s;rw[SCell] at h4;obtain⟨o,z,D,C,p,v,m,x,⟨g,c1,u,t⟩,⟨d,c2,b1,b2⟩,⟨e,c3,d1,d2⟩,⟨c,c4,q,j⟩⟩:=h4;exact⟨b,off,g,c1,d,c2,e,c3,c,c4,h1,h2,o,z,D,u,b1,d1,q,C,p,v,m,x,t,b2,d2,j⟩
mutual
def szE:BE->Nat
 | .mk _ _ _ kids=>1+Ze9 kids
def Ze9:List BE->Nat
 | []=>0
 | e::r=>szE e+Ze9 r
end
theorem Zlt:∀{l:List BE} {e:BE},e∈l->szE e<=Ze9 l
 | x::r,e,h=>by
  rw[Ze9];rcases Yz.1 h with rfl|h
  .omega
  .have:=Zlt h;omega
theorem Zdn (e:BE):szE e=1+Ze9 e.kids:=by
 obtain⟨op,n,name,kids⟩:=e;rw[szE];rfl
mutual
def szS:BS->Nat
 | .mk _ _ _ exprs _ body els=>1+Ze9 exprs+Zh3 body+Zh3 els
def Zh3:List BS->Nat
 | []=>0
 | s::r=>szS s+Zh3 r
end
theorem Zpx:∀{l:List BS} {s:BS},s∈l->szS s<=Zh3 l
 | x::r,e,h=>by
  rw[Zh3];rcases Yz.1 h with rfl|h
  .omega
  .have:=Zpx h;omega
theorem Ziv (s:BS):szS s=1+Ze9 s.exprs+Zh3 s.body+Zh3 s.els:=by
 obtain⟨op,n,name,exprs,regs,body,els⟩:=s;rw[szS];rfl
