/- Parts. -/
import Derived.Test.YtldbnjajjfgipaaGreatDoorZNWs
import Derived.KernelRfl
set_option linter.all false
open List renaming getElem?_eq_some_iff->Yg,eq_nil_of_length_eq_zero->Yz,flatMap_cons->Yat,range->Yb2,mapM_cons->Ydn
open Go.Result renaming andThen_ok->Y0
open Go.Sem renaming run_bind->Yad,run_pure->Yam
open Array renaming replicate->Ya6,mapM_eq_mapM_toList->Ydg
namespace Go.Proofs.YtldbnjajjfgipaaGreatDoor
open S Go.Proofs.Tryz Go.RowKit
section
namespace S
def resultA (P:Program)(s:St):ResultVar->Option (AV×Tail)
 | .tmp t=>match s.sl t with
  | some v=>if v.free=true then some (v,s.tl t) else none
  | none=>none
 | .cell p t=>match s.sl p with
  | some (.box i off)=>match s.hp i with
   | some (_,cs)=>match loadA P t cs off with
    | some v=>some (v,none)
    | none=>none
   | none=>none
  | _=>none
def resultsA (P:Program)(s:St):List ResultVar->Option (List AV)
 | []=>some []
 | r::rs=>match resultA P s r,resultsA P s rs with
  | some (v,_),some vs=>some (v::vs)
  | _,_=>none
def initSt (xs:List AV):St:=⟨λ t=>xs[t]?,λ _=>none,λ _=>none⟩
def bodyA (P:Program)(call:FuncId->List AV->Option (AV×Tail))(cf:Nat)(fn:Func)(c:Code)(xs:List AV):Option (AV×Tail) :=
 if xs.length<=fn.ntmps then match runCode P fn.ntmps call cf c 0 (initSt xs) with
  | some (.exit _,_,_)=>none
  | some (_,_,s)=>match fn.results.toList with
   | [r]=>resultA P s r
   | rs=>match resultsA P s rs with
    | some vs=>if vs.length=1 then none else some (.tup vs,none)
    | none=>none
  | none=>none
 else none
def runFn (P:Program)(orc:FuncId->List AV->Option (AV×Tail))(cf:Nat):Nat->FuncId->List AV->Option (AV×Tail)
 | 0,_,_=>none
 | n+1,f,xs=>match orc f xs with
  | some r=>some r
  | none=>match P.funcs[f]? with
   | some fn=>match fn.body with
    | some c=>bodyA P (runFn P orc cf n) cf fn c xs
    | none=>none
   | none=>none
end S
def Zoy (tmps:Array Value):ResultVar->Sem Value
 | .tmp t=>pure (tmps.getD t undef)
 | .cell p t=>do loadVar t (← asAddr (tmps.getD p undef))
theorem Zjj (fn:Func)(tmps:Array Value):results fn tmps=(do let vs ← fn.results.mapM (Zoy tmps);pure (if h:vs.size=1 then vs[0] else .tuple vs)):=by
 unfold results
 congr
section
variable {P:Program}{B N:Nat}{w0:World}{H0:Zl}{s:S.St}{a:Act}{w:World}{H:Zl}{φ:Nat->Nat}
theorem Zjk (hG:Gam B N w0 H0 s a w H φ){r:ResultVar}{v:S.AV}{y:S.Tail}(h:S.resultA P s r=some (v,y)) :
 ∃u,(Zoy a.tmps r).run P w=.ok u w/\RepV H w v u/\∀z,y=some z->TailOk H w B z v u:=by
 cases r with
 | tmp t =>
  simp only[S.resultA] at h
  split at h
  .rename_i x hx
   split at h
   .rename_i hf
    simp only[Option.some.injEq,Prod.mk.injEq] at h;obtain⟨rfl,rfl⟩:=h;refine⟨_,rfl,Zom (hG.slot t _ hx) hf,λ z hz=>?_⟩;obtain⟨x',hx',hok⟩:=hG.tail t z hz;rw[hx] at hx'
    cases hx'
    exact hok
   .cases h
  .cases h
 | cell p t =>
  simp only[S.resultA] at h
  split at h
  .rename_i i off hx
   split at h
   .rename_i e cs hcs
    split at h
    .rename_i v' hv
     simp only[Option.some.injEq,Prod.mk.injEq] at h;obtain⟨rfl,rfl⟩:=h;rcases hG.slot p _ hx with⟨i',off',hi,hsm,hp⟩|hr
     .cases hi
      obtain⟨_,_,vs,h1,h2⟩:=hG.ent i e cs hcs;obtain⟨u,hrun,hrep⟩:=Zon (off:=off) (q:=0) (Zfv h1) h2 hv;refine⟨u,?_,hrep,λ z hz=>by cases hz⟩;rw[Nat.zero_add] at hrun;simp only[Instr.loadAt,Instr.sureAddr,Yad,Yam,Y0] at hrun;simp only[Zoy,hp,asAddr,Yad,Yam,Y0,hrun]
     .rw[RepV] at hr;exact hr.elim
    .cases h
   .cases h
  .cases h
theorem Zh3 (hG:Gam B N w0 H0 s a w H φ):∀{rs:List ResultVar} {xs:List S.AV},S.resultsA P s rs=some xs->∃vs,(rs.mapM (Zoy a.tmps)).run P w=.ok vs w/\RepT H w xs vs
 | [],xs,h=>by
  simp only[S.resultsA,Option.some.injEq] at h;subst h;exact⟨[],rfl,by rw[RepT]⟩
 | r::rs,xs,h=>by
  unfold S.resultsA at h
  split at h
  .rename_i v y vs h1 h2
   cases h
   obtain⟨u,hu,hrep,_⟩:=Zjk hG h1;obtain⟨us,hus,hreps⟩:=Zh3 hG h2;refine⟨u::us,?_,by rw[RepT];exact⟨u,us,rfl,hrep,hreps⟩⟩;rw[Ydn];simp only[Yad,hu,Y0,hus,Yam]
  .cases h
theorem Zwv {fn:Func}{xs:List S.AV}{vs:List Value}(hn:xs.length<=fn.ntmps)(hb:∀b k,H b=some k->Bk w b)(hr:RepT H w xs vs) :
 Gam w.heap.size fn.ntmps w H (S.initSt xs) { tmps:=vs.toArray++Ya6 (fn.ntmps-vs.toArray.size) undef,defers:=[] } w H (λ _=>0):=by
 have hl:=RepT.length hr;refine⟨Below.refl _ _,Nat.le_refl _,λ _ _=>rfl,hb,by simp;omega,rfl,λ t x hx=>.inr ?_,λ i e cs hi=>by simp[S.initSt] at hi,λ i j hi=>by simp[S.initSt] at hi,λ t y hy=>by simp[S.initSt] at hy,λ t t' _ ht=>by simp[S.initSt] at ht⟩;obtain⟨v,hv,hrep⟩:=RepT.at_ hr (show xs[t]?=some x from hx);have e:({ tmps:=vs.toArray++Ya6 (fn.ntmps-vs.toArray.size) undef,defers:=[] }:Act).tmps.getD t undef=v:=by
  have hlt:=(Yg.1 hv).1;simp only[Array.getD_eq_getD_getElem?];rw[Array.getElem?_append_left (by simpa using hlt)];simp[hv]
 rw[e];exact hrep
theorem Zql {W:World->Prop}(hWs:∀w w',W w->Below w.heap.size w w'->W w'){call:FuncId->List S.AV->Option (S.AV×S.Tail)}(hcall:∀f xs r y,call f xs=some (r,y)->AFn P W f xs r y){cf:Nat}{f:FuncId}{fn:Func}{c:Code}
 (hf:P.funcs[f]?=some fn) (hc:fn.body=some c) {xs:List S.AV} {r:S.AV} {y:S.Tail} (h:S.bodyA P call cf fn c xs=some (r,y)):AFn P W f xs r y:=by
 intro H w vs hbnd hWw hrep;unfold S.bodyA at h
 split at h
 .rename_i hn
  refine calls_of_wp hf hc ?_;have hG:=Zwv (fn:=fn) hn hbnd hrep;have fin:∀(s:S.St)(a:Act)(w':World),GamX w.heap.size fn.ntmps w H s a w'->(match fn.results.toList with | [q]=>S.resultA P s q|rs=>match S.resultsA P s rs with|some us=>if us.length=1 then none else some (.tup us,none) | none=>none)=some (r,y) ->
   a.defers=[]/\∃v,(results fn a.tmps).run P w'=.ok v w'/\∃v' H',Ending.returned v=.returned v'/\Below w.heap.size w w'/\(∀b,b<w.heap.size->H' b=H b)/\(∀b k,H' b=some k->Bk w' b)/\RepV H' w' r v'/\∀z,y=some z->TailOk H' w' w.heap.size z r v':=by
   rintro s a w' ⟨H',φ,hG'⟩ hres;refine⟨hG'.defs,?_⟩
   split at hres
   .rename_i q hq
    obtain⟨u,hu,hr,ht⟩:=Zjk hG' hres;have e:fn.results=#[q]:=by rw[<- Array.toArray_toList (xs:=fn.results),hq]
    refine⟨u,?_,u,H',rfl,hG'.bel,hG'.old,hG'.bnd,hr,ht⟩;rw[Zjj,Yad,Ydg,hq,Ydn,List.mapM_nil];simp only[Yad,Sem.run_map,hu,Y0,Yam];rfl
   .rename_i hne
    split at hres
    .rename_i us hus
     split at hres
     .cases hres
     .rename_i h1
      simp only[Option.some.injEq,Prod.mk.injEq] at hres;obtain⟨rfl,rfl⟩:=hres;obtain⟨ws,hws,hT⟩:=Zh3 hG' hus;have hl:=RepT.length hT;refine⟨.tuple ws.toArray,?_,_,H',rfl,hG'.bel,hG'.old,hG'.bnd,by rw[RepV];exact⟨ws,rfl,hT⟩,λ z hz=>by cases hz⟩;rw[Zjj,Yad,Ydg];simp only[Sem.run_map,hws,Y0,Yam];rw[dif_neg];rw[List.size_toArray,hl];exact h1
    .cases hres
  split at h
  .cases h
  .rename_i ex ep s hne hcode
   refine Zpq (W:=W) (λ w' hb=>hWs w w' hWw hb) hcall cf c 0 ep _ s ex hcode _ (λ a w' hG'=>?_) _ w ⟨H,_,hG⟩;have:=fin s a w' hG' h
   cases ex with
   | normal=>exact this
   | ret=>exact this
   | exit id=>exact(hne _ rfl).elim
  .cases h
 .cases h
theorem Zge {W:World->Prop}(hWs:∀w w',W w->Below w.heap.size w w'->W w'){orc:FuncId->List S.AV->Option (S.AV×S.Tail)}(horc:∀f xs r y,orc f xs=some (r,y)->AFn P W f xs r y){cf:Nat} :
 ∀(n:Nat)(f:FuncId)(xs:List S.AV)(r:S.AV)(y:S.Tail),S.runFn P orc cf n f xs=some (r,y)->AFn P W f xs r y
 | 0,f,xs,r,y,h=>by simp[S.runFn] at h
 | n+1,f,xs,r,y,h=>by
  unfold S.runFn at h
  split at h
  .rename_i q hq
   cases h
   exact horc f xs r y hq
  .split at h
   .rename_i fn hf
    split at h
    .rename_i c hc
     exact Zql hWs (λ f xs r y h=>Zge hWs horc n f xs r y h) hf hc h
    .cases h
   .cases h
end
end
section
namespace S
def decEs:Nat->List AV->Option (List BE)
 | 0,_=>none
 | _+1,[]=>some []
 | n+1,.int .i64 op::.int .i64 m::.str name::.row k cs::r=>match decEs n cs,decEs n r with
  | some ks,some rs=>if k=ks.length/\name.size<=1000/\ks.length<=1000 then some (.mk op m name ks::rs) else none
  | _,_=>none
 | _,_=>none
def decIs:List AV->Option (List Int)
 | []=>some []
 | .int .i64 n::r=>match decIs r with
  | some ns=>some (n::ns)
  | none=>none
 | _=>none
def decSs:Nat->List AV->Option (List BS)
 | 0,_=>none
 | _+1,[]=>some []
 | n+1,.int .i64 op::.int .i64 m::.str name::.row k1 c1::.row k2 c2::.row k3 c3::.row k4 c4::r=>match decEs n c1,decIs c2,decSs n c3,decSs n c4,decSs n r with
  | some es,some ns,some bs,some ls,some rs=>if k1=es.length/\k2=ns.length/\k3=bs.length/\k4=ls.length/\name.size<=1000/\es.length<=1000/\ns.length<=1000/\bs.length<=1000/\ls.length<=1000 then some (.mk op m name es ns bs ls::rs) else none
  | _,_,_,_,_=>none
 | _,_=>none
def decR:AV->Option BR
 | .agg [.str name,.int .i64 p,.int .i64 l,.bool bh,.row k cs]=>match decSs 400 cs with
  | some body=>if k=body.length/\name.size<=1000/\body.length<=1000/\Zf3 body<=1000000 then some ⟨name,p,l,bh,body⟩ else none
  | none=>none
 | _=>none
def encItem (x:Item):List AV:=[.int .i64 x.kind,.int .i64 x.inst.op,.int .i64 x.inst.d,.int .i64 x.inst.a,.int .i64 x.inst.b,.int .i64 x.inst.imm,.str x.label,.int .u32 x.word]
def encItems (l:List Item):List AV:=l.flatMap encItem
def encObj (name:ByteArray)(items:List Item):List AV:=[.str name,.row items.length (encItems items)]
end S
section
variable {H:Zl}{w:World}{B:Nat}(hB:∀b k,H b=some k->b<B)
include hB
theorem Zfl:∀(n:Nat) {cs:List S.AV} {l:List S.BE} {b o:Nat},S.decEs n cs=some l->RepC H w cs b o->EKids w B b o l
 | 0,cs,l,b,o,h,_=>by simp[S.decEs] at h
 | n+1,cs,l,b,o,h,hc=>by
  unfold S.decEs at h
  split at h
  .cases h
  .cases h
   rw[EKids];trivial
  .rename_i n' op m name k ds r hq
   split at h
   .rename_i ks rs h1 h2
    rw[show n'=n from(Nat.succ.inj hq).symm] at h1 h2
    split at h
    .rename_i hh
     obtain⟨hk,hn,hks⟩:=hh
     cases h
     rw[RepC,RepC,RepC,RepC] at hc;obtain⟨_,⟨v1,hv1,r1⟩,_,⟨v2,hv2,r2⟩,_,⟨v3,hv3,r3⟩,_,⟨v4,hv4,r4⟩,hr⟩:=hc;rw[RepV] at r1;rw[RepV] at r2;rw[RepV] at r3;rw[RepV] at r4;subst r1 r2 r3;obtain⟨A,c,rfl,h0,hA,hds⟩:=r4;rw[EKids,ECell];refine⟨⟨hv1,hv2,hv3,by simp only[maxLen];omega,by simp only[maxLen];omega,A,c,by rw[<- hk];exact hv4,?_⟩,Zfl n h2 hr⟩;rcases hds with rfl|⟨b',o',k',rfl,hH,_,hcc⟩
     .refine .inl ?_
      cases n with
      | zero=>simp[S.decEs] at h1
      | succ n=>simp[S.decEs] at h1;exact h1
     .exact .inr ⟨b',o',rfl,hB b' k' hH,Zfl n h1 hcc⟩
    .cases h
   .cases h
  .cases h
omit hB in
theorem Zjl:∀{cs:List S.AV} {l:List Int} {b o:Nat},S.decIs cs=some l->RepC H w cs b o->∀i x,l[i]?=some x->w.cell? ⟨b,o+i,none⟩=some (.int .i64 x)
 | [],l,b,o,h,_,i,x,hx=>by
  simp[S.decIs] at h;subst h;simp at hx
 | y::r,l,b,o,h,hc,i,x,hx=>by
  unfold S.decIs at h
  split at h
  .rename_i heq;cases heq
  .rename_i n r' heq
   cases heq
   split at h
   .rename_i ns h1
    cases h
    rw[RepC] at hc;obtain⟨_,⟨v,hv,hr⟩,hcr⟩:=hc;rw[RepV] at hr;subst hr
    cases i with
    | zero=>simp at hx;subst hx;exact hv
    | succ i =>
     rw[show o+(i+1)=o+1+i by omega];exact Zjl h1 hcr i x (by simpa using hx)
   .cases h
  .cases h
omit hB in
theorem Zt3 {n:Nat}{l:List S.BE}(h:S.decEs n []=some l):l=[]:=by
 cases n with
 | zero=>simp[S.decEs] at h
 | succ n=>simp[S.decEs] at h;exact h
omit hB in
theorem Zh4 {n:Nat}{l:List S.BS}(h:S.decSs n []=some l):l=[]:=by
 cases n with
 | zero=>simp[S.decSs] at h
 | succ n=>simp[S.decSs] at h;exact h
theorem Zdv:∀(n:Nat) {cs:List S.AV} {l:List S.BS} {b o:Nat},S.decSs n cs=some l->RepC H w cs b o->SKids w B b o l
 | 0,cs,l,b,o,h,_=>by simp[S.decSs] at h
 | n+1,cs,l,b,o,h,hc=>by
  unfold S.decSs at h
  split at h
  .cases h
  .cases h
   rw[SKids];trivial
  .rename_i n' op m name k1 c1 k2 c2 k3 c3 k4 c4 r hq
   split at h
   .rename_i es ns bs ls rs h1 h2 h3 h4 h5
    rw[show n'=n from(Nat.succ.inj hq).symm] at h1 h3 h4 h5
    split at h
    .rename_i hh
     obtain⟨q1,q2,q3,q4,q5,q6,q7,q8,q9⟩:=hh
     cases h
     rw[RepC,RepC,RepC,RepC,RepC,RepC,RepC] at hc;obtain⟨_,⟨v1,hv1,r1⟩,_,⟨v2,hv2,r2⟩,_,⟨v3,hv3,r3⟩,_,⟨v4,hv4,r4⟩,_,⟨v5,hv5,r5⟩,_,⟨v6,hv6,r6⟩,_,⟨v7,hv7,r7⟩,hr⟩:=hc;rw[RepV] at r1;rw[RepV] at r2;rw[RepV] at r3;rw[RepV] at r4;rw[RepV] at r5;rw[RepV] at r6;rw[RepV] at r7;subst r1 r2 r3;obtain⟨A4,a4,rfl,_,_,hd4⟩:=r4;obtain⟨A5,a5,rfl,_,_,hd5⟩:=r5;obtain⟨A6,a6,rfl,_,_,hd6⟩:=r6;obtain⟨A7,a7,rfl,_,_,hd7⟩:=r7;rw[SKids,SCell];refine⟨⟨hv1,hv2,hv3,by simp only[maxLen];omega,by simp only[maxLen];omega,by simp only[maxLen];omega,by simp only[maxLen];omega,by simp only[maxLen];omega,⟨A4,a4,by rw[<- q1];exact hv4,?_⟩,⟨A5,a5,by rw[<- q2];exact hv5,?_⟩,⟨A6,a6,by rw[<- q3];exact hv6,?_⟩,⟨A7,a7,by rw[<- q4];exact hv7,?_⟩⟩,Zdv n h5 hr⟩
     .rcases hd4 with rfl|⟨b',o',k',rfl,hH,_,hcc⟩
      .exact .inl (Zt3 h1)
      .exact .inr ⟨b',o',rfl,hB b' k' hH,Zfl hB n h1 hcc⟩
     .intro hpos
      rcases hd5 with rfl|⟨b',o',k',rfl,hH,_,hcc⟩
      .simp[S.decIs] at h2
       subst h2;simp at hpos
      .exact⟨b',o',rfl,hB b' k' hH,Zjl h2 hcc⟩
     .rcases hd6 with rfl|⟨b',o',k',rfl,hH,_,hcc⟩
      .exact .inl (Zh4 h3)
      .exact .inr ⟨b',o',rfl,hB b' k' hH,Zdv n h3 hcc⟩
     .rcases hd7 with rfl|⟨b',o',k',rfl,hH,_,hcc⟩
      .exact .inl (Zh4 h4)
      .exact .inr ⟨b',o',rfl,hB b' k' hH,Zdv n h4 hcc⟩
    .cases h
   .cases h
  .cases h
theorem Zzl {x:S.AV}{r:S.BR}{v:Value}(h:S.decR x=some r)(hv:RepV H w x v):∃A c,v=Zuj r A c/\RAt2 w B r A:=by
 unfold S.decR at h
 split at h
 .rename_i name p l bh k cs
  split at h
  .rename_i body h1
   split at h
   .rename_i hh
    obtain⟨hk,hn,hb,hsz⟩:=hh
    cases h
    rw[RepV] at hv;obtain⟨vs,rfl,hl⟩:=hv;rw[RepL] at hl;obtain⟨v1,r1,rfl,_,q1,hl⟩:=hl;rw[RepL] at hl;obtain⟨v2,r2,rfl,_,q2,hl⟩:=hl;rw[RepL] at hl;obtain⟨v3,r3,rfl,_,q3,hl⟩:=hl;rw[RepL] at hl;obtain⟨v4,r4,rfl,_,q4,hl⟩:=hl;rw[RepL] at hl;obtain⟨v5,r5,rfl,_,q5,hl⟩:=hl;rw[RepL] at hl;subst hl;rw[RepV] at q1;rw[RepV] at q2;rw[RepV] at q3;rw[RepV] at q4;rw[RepV] at q5;subst q1 q2 q3 q4;obtain⟨A,c,rfl,_,_,hd⟩:=q5;refine⟨A,c,by unfold Zuj;rw[hk],⟨by show name.size<=_;simp only[maxLen];omega,?_,by show Zf3 body<=_;omega⟩⟩;rcases hd with rfl|⟨b',o',k',rfl,hH,_,hcc⟩
    .exact .inl (Zh4 h1)
    .exact .inr ⟨b',o',rfl,hB b' k' hH,Zdv hB 400 h1 hcc⟩
   .cases h
  .cases h
 .cases h
end
theorem Zfx (H:Zl)(w:World):∀l:List S.Item,RepL H w (S.encItems l) (l.flatMap Zb)
 | []=>by unfold S.encItems;rw[List.flatMap_nil,RepL];rfl
 | x::r=>by
  unfold S.encItems;rw[Yat,Yat];refine RepL.append ?_ (Zfx H w r);unfold S.encItem Zb
  repeat (rw[RepL];refine⟨_,_,rfl,rfl,by rw[RepV],?_⟩)
  rw[RepL]
theorem Zh5 (l:List S.Item):(S.encItems l).length=l.length*8:=by
 unfold S.encItems
 induction l with
 | nil=>rfl
 | cons x r ih=>rw[Yat,List.length_append,ih,List.length_cons];simp[S.encItem];omega
namespace S
def buildA (x:AV):Option (AV×Tail):=match decR x with
 | some r=>if chkB r=0 then(if Zf3 r.body<=1000000/\(bItems r).length<=1000000 then some (.tup [.agg (encObj r.name (bItems r)),.int .i64 0],none) else none)
  else some (.tup [.agg [.str ⟨#[]⟩,.row 0 []],.int .i64 (chkB r)],none)
 | none=>none
def itoaA (x:AV):Option (AV×Tail):=match x with
 | .int .i64 n=>if -9223372036854775808<=n/\n<=9223372036854775807 then some (.str ⟨(itoa n).toArray⟩,none) else none
 | _=>none
def orcB (f:FuncId)(xs:List AV):Option (AV×Tail) :=
 if f=120 then(match xs with | [x]=>itoaA x|_=>none) else if f=177 then(match xs with | [x]=>buildA x|_=>none) else none
end S
theorem Zzm {H:Zl}{w w':World}{n:Nat}{A:Option Addr}{c:Nat}{t:TypeId}{z:Nat}{cs:List S.AV}{xs:List Value}(hbnd:∀b k,H b=some k->Bk w b)(hb:Below w.heap.size w w')
 (ho:w'.ownsRow w.heap.size t z (.slice A n c) n xs) (hx:∀H w,RepL H w cs xs) (hz:0<z):∃H':Zl,(∀b,b<w.heap.size->H' b=H b)/\(∀b k,H' b=some k->Bk w' b)/\RepV H' w' (.row n cs) (.slice A n c):=by
 have hlen:cs.length=n*z:=by rw[<- ho.1];exact(RepL.length (hx H w)).symm
 rcases ho.2 with⟨e,rfl⟩|⟨g,cap,cur,e,hg,hcur,hn,hcm,hsz,htake⟩
 .cases e
  refine⟨H,λ _ _=>rfl,λ b k hk=>(hbnd b k hk).below hb,?_⟩;rw[RepV];exact⟨none,0,rfl,λ _=>Yz (by rw[hlen];simp),λ _=>rfl,.inl (Yz (by rw[hlen];simp))⟩
 .cases e
  refine⟨λ b=>if b=g then some cs.length else H b,λ b hb'=>by simp only;rw[if_neg (by omega)],λ b k hk=>?_,?_⟩
  .simp only at hk
   by_cases h:b=g
   .rw[h];exact⟨_,_,hcur⟩
   .rw[if_neg h] at hk;exact(hbnd b k hk).below hb
  .rw[RepV]
   refine⟨_,_,rfl,λ h0=>Yz (by rw[hlen,h0];simp),λ h0=>(by cases h0),.inr ⟨g,0,cs.length,rfl,by simp,by omega,Zho (hx _ _) λ j u hj=>?_⟩⟩;rw[Lib.cell_of_heap hcur,Nat.zero_add];have hj2:j<n*z:=by rw[<- ho.1];exact(Yg.1 hj).1
   rw[<- htake,List.getElem?_take,if_pos hj2] at hj
   simpa using hj
theorem Zns {x:S.AV}{r:S.AV}{y:S.Tail}(h:S.buildA x=some (r,y)):AFn prog LVE 177 [x] r y:=by
 intro H w vs hbnd hL hrep;rw[RepT] at hrep;obtain⟨v,us,rfl,hv,hus⟩:=hrep;rw[RepT] at hus;subst hus;unfold S.buildA at h
 split at h
 .rename_i br hbr
  obtain⟨A,c,rfl,hat⟩:=Zzl (λ b k h=>(hbnd b k h).lt) hbr hv
  split at h
  .rename_i h0
   split at h
   .rename_i hh
    cases h
    refine(Zx0 br A c w hat h0 hh.1 hL (by omega)).mono ?_;rintro e w' ⟨A',c',rfl,ho,hb⟩;obtain⟨H',p1,p2,p3⟩:=Zzm hbnd hb ho (λ H w=>Zfx H w (S.bItems br)) (by decide);refine⟨_,H',rfl,hb,p1,p2,?_,λ z hz=>by cases hz⟩;rw[RepV];refine⟨[_,_],rfl,?_⟩;rw[RepT];refine⟨_,_,rfl,?_,?_⟩
    .rw[RepV]
     refine⟨[_,_],rfl,?_⟩;unfold S.encObj;rw[RepL];refine⟨_,_,rfl,rfl,by rw[RepV],?_⟩;rw[RepL];exact⟨_,_,rfl,rfl,p3,by rw[RepL]⟩
    .rw[RepT]
     exact⟨_,_,rfl,by rw[RepV],by rw[RepT]⟩
   .cases h
  .rename_i h0
   cases h
   refine(Zq2 br A c w hat h0).mono ?_;rintro e w' ⟨rfl,hb⟩;refine⟨_,H,rfl,hb,λ _ _=>rfl,λ b k hk=>(hbnd b k hk).below hb,?_,λ z hz=>by cases hz⟩;rw[RepV];refine⟨[_,_],rfl,?_⟩;rw[RepT];refine⟨_,_,rfl,?_,?_⟩
   .rw[RepV]
    refine⟨[_,_],rfl,?_⟩;rw[RepL];refine⟨_,_,rfl,rfl,by rw[RepV],?_⟩;rw[RepL];refine⟨_,_,rfl,rfl,?_,by rw[RepL]⟩;rw[RepV];exact⟨none,0,rfl,λ _=>rfl,λ _=>rfl,.inl rfl⟩
   .rw[RepT]
    exact⟨_,_,rfl,by rw[RepV],by rw[RepT]⟩
 .cases h
theorem Zqm {x:S.AV}{r:S.AV}{y:S.Tail}(h:S.itoaA x=some (r,y)):AFn prog LVE 120 [x] r y:=by
 intro H w vs hbnd hL hrep;rw[RepT] at hrep;obtain⟨v,us,rfl,hv,hus⟩:=hrep;rw[RepT] at hus;subst hus;unfold S.itoaA at h
 split at h
 .rename_i n
  split at h
  .rename_i hh
   cases h
   rw[RepV] at hv;subst hv;refine(Zrx n ⟨by omega,by omega⟩ w hL).mono ?_;rintro e w' ⟨rfl,hb⟩;exact⟨_,H,rfl,hb,λ _ _=>rfl,λ b k hk=>(hbnd b k hk).below hb,by rw[RepV],λ z hz=>by cases hz⟩
  .cases h
 .cases h
theorem Zjm (f:FuncId)(xs:List S.AV)(r:S.AV)(y:S.Tail)(h:S.orcB f xs=some (r,y)):AFn prog LVE f xs r y:=by
 unfold S.orcB at h
 split at h
 .rename_i hf
  subst hf
  split at h
  .exact Zqm h
  .cases h
 .split at h
  .rename_i hf
   subst hf
   split at h
   .exact Zns h
   .cases h
  .cases h
theorem Zt4 {cf n:Nat}{f:FuncId}{xs:List S.AV}{r:S.AV}{y:S.Tail}(h:S.runFn prog S.orcB cf n f xs=some (r,y)):AFn prog LVE f xs r y :=
 Zge (λ w w' hL hb=>hL.on hb) Zjm n f xs r y h
end
namespace S
def kIs:ByteArray:=⟨#[105,115]⟩
def kIsInt:ByteArray:=⟨#[105,115,105,110,116]⟩
def kIndex:ByteArray:=⟨#[105,110,100,101,120]⟩
def Zt5:ByteArray:=⟨#[97,108,105,107,101]⟩
def vHd (typ len:Int):Int:=32*len+4*typ+3
def vPrim (op params locals:Int)(l:List BS):BR:=⟨kRt op,params,locals,true,l⟩
def vIs:BR:=⟨kIs,2,2,false,
 [sWhen (eNot (eQ (eAnd (eL 0) (eC 3)) (eC 1))) [sVal (eC 0)],
  sVal (eQ (eAnd (eM (eAdr (eL 0)) 0) (eC 31)) (eL 1))]⟩
def vIsInt:BR:=⟨kIsInt,1,1,false,
 [sWhen (eNot (eAnd (eL 0) (eC 3))) [sVal (eC 1)],
  sVal (eF kIs [eL 0,eC (vHd 7 0)])]⟩
def vIndex:BR:=⟨kIndex,1,1,false,
 [sWhen (eAnd (eL 0) (eC 3)) [sVal (eC (-1))],
  sVal (eB 12 (eL 0) (eC 2))]⟩
def vObject (v:BE)(typ:Int):BS:=sWhen (eNot (eF kIs [v,eC (vHd typ 0)])) [sHlt (eC 2)]
def vInteger (v:BE):BS:=sWhen (eNot (eF kIsInt [v])) [sHlt (eC 2)]
def vIsChar (v:BE):BE:=eQ (eAnd v (eC 15)) (eC 2)
def vChar (v:BE):BS:=sWhen (eNot (vIsChar v)) [sHlt (eC 2)]
def vWithin (v below:BE):BS:=sWhen (eNot (eLt (eF kIndex [v]) below)) [sHlt (eC 3)]
def Zoz (e:BE):BS:=sIf e [sVal (eC 22)] [sVal (eC 6)]
def vNone:BS:=sVal (eC 70)
def vLen (v:BE):BE:=eShr (eM (eAdr v) 0) 5
def vRoom (n:Nat)(words:BE):List BS :=
 (Yb2 n).map (λ i:Nat=>sKeep (16+i) (eL i))++[sKeep 8 (eC n),sKeep 6 eK,sDo (eF kReserve [words])] ++
  (Yb2 n).map (λ i:Nat=>sAs i (eW (16+i)))++[sKeep 8 (eC 0),sKeep 6 (eC 0)]
def vHeap:BE:=eR 26
def vTook (n:BE):BS:=sSet 26 (eAdd vHeap n)
def Zxs (typ:Int)(v:BE):List BS:=if typ=4 then [vChar v] else if typ=6 then [vInteger v] else []
def Zt6 (typ:Int)(v:BE):List BS:=if typ=6 then [vWithin v (eC 256)] else []
def vMakes (op typ:Int):BR:=vPrim op 2 3
 ([vInteger (eL 0)]++Zxs typ (eL 1)++[vWithin (eL 0) (eC 1048577)]++Zt6 typ (eL 1)++vRoom 2 (eAdd (eShr (eL 0) 2) (eC 1)) ++
 [sAs 0 (eShr (eL 0) 2),
  sPut vHeap 0 (eB 8 (eShl (eL 0) 5) (eC (vHd typ 0))),
  sAs 2 (eC 0),
  sWh (eLt (eL 2) (eL 0)) [sAs 2 (eAdd (eL 2) (eC 1)),sPut (eAdd vHeap (eL 2)) 0 (eL 1)],
  vTook (eAdd (eL 0) (eC 1)),
  sVal (eRef (eSub vHeap (eAdd (eL 0) (eC 1))))])
def Zww (op typ:Int):BR:=vPrim op 1 1 [vObject (eL 0) typ,sVal (eShl (vLen (eL 0)) 2)]
def vPlace (v i:BE):BE:=eAdd (eAdr v) (eShr i 2)
def vRefs (op typ:Int):BR:=vPrim op 2 2 [vObject (eL 0) typ,vInteger (eL 1),vWithin (eL 1) (vLen (eL 0)),sVal (eM (vPlace (eL 0) (eL 1)) 1)]
def Z3q (op typ:Int):BR:=vPrim op 3 3
 ([vObject (eL 0) typ,vInteger (eL 1)]++Zxs typ (eL 2)++[vWithin (eL 1) (vLen (eL 0))]++Zt6 typ (eL 2)++[sPut (vPlace (eL 0) (eL 1)) 1 (eL 2),vNone])
def Z1z:List BR :=
 [vPrim 2 2 2 (vRoom 2 (eC 3)++[sVal (eF kCons [eL 0,eL 1])]),
  vPrim 3 1 1 [vObject (eL 0) 0,sVal (eM (eAdr (eL 0)) 1)],
  vPrim 4 1 1 [vObject (eL 0) 0,sVal (eM (eAdr (eL 0)) 2)],
  vPrim 5 2 2 [vObject (eL 0) 0,sPut (eAdr (eL 0)) 1 (eL 1),vNone],
  vPrim 6 2 2 [vObject (eL 0) 0,sPut (eAdr (eL 0)) 2 (eL 1),vNone]]
def Zt7 (v:BE)(n i:Int):List BS :=
 [sAs n (vLen v),sAs i (eC 0),
  sWh (eNot (eLt (eL n) (eL i))) [sPut (eAdd vHeap (eL i)) 0 (eM (eAdd (eAdr v) (eL i)) 0),sAs i (eAdd (eL i) (eC 1))],
  vTook (eL i)]
def Z3r:BR:=vPrim 24 1 3
 ([vObject (eL 0) 5,sAs 0 (eM (eAdr (eL 0)) 1)]++vRoom 1 (eAdd (vLen (eL 0)) (eC 1))++Zt7 (eL 0) 1 2++[sVal (eRef (eSub vHeap (eL 2)))])
def vAlike:BR:=⟨Zt5,2,3,false,
 [sAs 0 (eAdr (eL 0)),sAs 1 (eAdr (eL 1)),sAs 2 (eShr (eM (eL 0) 0) 5),
  sWhen (eNot (eQ (eM (eL 0) 0) (eM (eL 1) 0))) [sVal (eC 0)],
  sWh (eL 2)
   [sWhen (eNot (eQ (eM (eAdd (eL 0) (eL 2)) 0) (eM (eAdd (eL 1) (eL 2)) 0))) [sVal (eC 0)],
    sAs 2 (eSub (eL 2) (eC 1))],
  sVal (eC 1)]⟩
def Zxt:BE:=eM (eAdr (eL 1)) 1
def Zzn:BR:=vPrim 25 1 4
 ([vObject (eL 0) 4,sAs 1 (eW 5),
  sWh (eNot (eQ (eL 1) (eC 38)))
   [sWhen (eF Zt5 [eL 0,eM (eAdr Zxt) 1]) [sVal Zxt],
    sAs 1 (eM (eAdr (eL 1)) 2)]] ++
  vRoom 1 (eAdd (vLen (eL 0)) (eC 6))++Zt7 (eL 0) 2 3 ++
  [sAs 0 (eRef (eSub vHeap (eL 3))),
   sPut vHeap 0 (eC (vHd 5 1)),
   sPut vHeap 1 (eL 0),
   sAs 0 (eRef vHeap),
   vTook (eC 2),
   sKeep 5 (eF kCons [eL 0,eW 5]),
   sVal (eL 0)])
def Z10:List BR :=
 [vPrim 16 1 1 [vChar (eL 0),sVal (eShl (eShr (eL 0) 4) 2)],
  vPrim 17 1 1 [vInteger (eL 0),vWithin (eL 0) (eC 1114112),
   sWhen (eLt (eSub (eF kIndex [eL 0]) (eC 55296)) (eC 2048)) [sHlt (eC 3)],
   sVal (eB 8 (eShl (eShr (eL 0) 2) 4) (eC 2))]]
def Z11:List BR :=
 [vPrim 37 0 1 [sAs 0 eI,sWhen (eQ (eL 0) (eC (-1))) [sVal (eC 54)],sVal (eShl (eL 0) 2)],
  vPrim 38 1 1 [vInteger (eL 0),vWithin (eL 0) (eC 256),sOut (eShr (eL 0) 2),vNone],
  vPrim 39 1 1 [vInteger (eL 0),vWithin (eL 0) (eC 101),sHlt (eShr (eL 0) 2)]]
def Zqn (op typ:Int):BR:=vPrim op 1 1 [Zoz (eF kIs [eL 0,eC (vHd typ 0)])]
def Z12:List BR :=
 [vPrim 0 2 2 [Zoz (eQ (eL 0) (eL 1))],
  vPrim 7 1 1 [Zoz (eF kIsInt [eL 0])],
  vPrim 15 1 1 [Zoz (vIsChar (eL 0))],
  vPrim 40 0 0 [sVal (eC 54)],
  vPrim 41 0 0 [vNone],
  Zqn 1 0,Zqn 18 4,Zqn 23 5,Zqn 26 1,Zqn 31 6,Zqn 36 2]
def Zzo (op typ:Int):List BR:=[vMakes op typ,Zww (op+1) typ,vRefs (op+2) typ,Z3q (op+3) typ]
def rs28:List BR:=[vIs,vIsInt,vIndex,vAlike,Z3r,Zzn]++Z1z++Z10++Z11++Z12++Zzo 19 4++Zzo 27 1++Zzo 32 6
def objs28:List Obj:=rs28.map ofR
def oMainV:Obj:=⟨kMain,[bL kF0,bI 36 0 0 0 0]⟩
end S
