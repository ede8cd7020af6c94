/- Parts. -/
import Derived.Test.YtldbnjajjfgipaaGreatDoorZQf
set_option linter.all false
open Go.Lib renaming cell_of_heap->Yb
open List renaming length_append->Yc,append_assoc->Yo,eq_nil_of_length_eq_zero->Yz,length_take->Y9,getElem?_take->Ybe,size_toArray->Yct
open Nat renaming le_refl->Yd,zero_add->Yw,add_mul->Yda
open Go.Result renaming andThen_ok->Y0
open Option renaming isSome_iff_exists->Y8,map_some->Yb7
open Go.Sem renaming run_bind->Yad,run_pure->Yam
open Go.Region renaming wanted->Yah
open Go.Value renaming ownBlock->Yaj
open Array renaming toArray_toList->Ybs,getD_eq_getD_getElem?->Yca
namespace Go.Proofs.YtldbnjajjfgipaaGreatDoor
open S Go.RowKit
def AFn (P:Program)(W:World->Prop)(f:FuncId)(xs:List AV)(r:AV)(y:Tail):Prop :=
 ∀(H:Zl)(w:World)(vs:List Value),(∀b k,H b=some k->Bk w b)->W w->RepT H w xs vs->Calls P f vs.toArray w λ e w' =>
  ∃v H',e=.returned v/\Below w.heap.size w w'/\(∀b,b<w.heap.size->H' b=H b)/\(∀b k,H' b=some k->Bk w' b)/\RepV H' w' r v/\∀z,y=some z->TailOk H' w' w.heap.size z r v
section
variable {P:Program}{B N:Nat}{w0:World}{H0:Zl}{s:St}{a:Act}{w:World}{H:Zl}{φ:Nat->Nat}{o:Oper}{e:Eff}{l:List Nat}
theorem Zp6 (t ty e:TypeId)(i:TypeInfo)(z:Value)(ht:P.underlying t=some (.slice e))(hi:P.info? e=some i)(hz:i.zero=some z)(hzs:z.cells.size=i.size)(hsz:0<i.size)
 (base:Nat) (v:Value) (n:Nat) (xs:List Value) (hown:w.ownsRow base e i.size v n xs) (A:Option Addr) (m c:Nat) (news:List Value) (hl:news.length=m*i.size) (hA:A=none->m=0)
 (hnews:∀ad,A=some ad->∀j u,news[j]?=some u->w.cell? (ad.add j)=some u) (h1:∀u∈news,u.oneCell'=true) (h63:n+m<=1000000) (hbytes:(n+m)*i.bytes<=140737488355328) :
 ∃v' w',(Builtin.append_ #[t,t] ty #[v,.slice A m c]).run P w=.ok v' w' /\
  ((m=0/\v'=v/\w'=w)\/(∃g cap cur cur',v=.slice (some ⟨g,0,none⟩) n cap/\v'=.slice (some ⟨g,0,none⟩) (n+m) cap/\w.heap[g]?=some (.cells cur e (0,0))/\n+m<=cap/\cap<=maxLen/\w'=w.setRow g cur'/\cur'.size=cap*i.size/\cur'.toList.take ((n+m)*i.size)=xs++news/\base<=g)\/(∃cap cur',v'=.slice (some ⟨w.heap.size,0,none⟩) (n+m) cap/\n+m<=cap/\cap<=maxLen/\w'=w.drew.alloc (.cells cur' e (0,0))/\cur'.size=cap*i.size/\cur'.toList.take ((n+m)*i.size)=xs++news)):=by
 have hlen:(xs++news).length=(n+m)*i.size:=by rw[Yc,hown.1,hl,Yda]
 rcases A with _|ad
 .have h0:=hA rfl
  subst h0;exact⟨v,w,Zbl w base t _ e i i.size ht hi v n xs hown c,.inl ⟨rfl,rfl,rfl⟩⟩
 have hn:=hnews ad rfl;have grown:∀(old:Nat),n+m<=grownCap w (n+m) old e/\grownCap w (n+m) old e<=maxLen/\(xs.toArray++news.toArray++Builtin.zeroCells z.cells (grownCap w (n+m) old e-(n+m))).size=grownCap w (n+m) old e*i.size /\
  (xs.toArray++news.toArray++Builtin.zeroCells z.cells (grownCap w (n+m) old e-(n+m))).toList.take ((n+m)*i.size)=xs++news:=λ old=>by
  have hge:=grownCap_ge w (n+m) old e;have hcm:grownCap w (n+m) old e<=maxLen:=grownCap_le_maxLen w (n+m) old e (by simp only[maxLen];omega);refine⟨hge,hcm,?_,?_⟩
  .simp only[Array.size_append,Yct,size_zeroCells,hzs,hown.1,hl,<- Yda]
   congr 1
   omega
  .simp only[Array.toList_append,Yo]
   rw[<- Yo,<- hlen];exact List.take_left
 rcases hown.2 with⟨rfl,rfl⟩|⟨g,cap,cur,rfl,hbg,hg,hnc,hcm,hcs,htake⟩
 .have hx:xs=[]:=Yz (by simpa using hown.1)
  subst hx;by_cases hm:m=0
  .subst hm
   refine⟨.slice none 0 0,w,?_,.inl ⟨rfl,rfl,rfl⟩⟩;simp[Builtin.append_,run_underlying ht,sizeOf,typeInfo,hi,Builtin.lenOf,Builtin.firstCells,loadCells,loadCellsFrom]
  .have hr:=run_append_nil (P:=P) w t ty e i z ht hi hz ad m c news hl hn (by omega) (by omega) (by have hb:=hbytes;simp only[Yw] at hb;omega)
   obtain⟨q1,q2,q3,q4⟩:=grown 0;simp only[Yw,List.nil_append,Array.empty_append] at q1 q2 q3 q4⊢;exact⟨_,_,hr,.inr (.inr ⟨_,_,rfl,q1,q2,rfl,q3,q4⟩)⟩
 .by_cases hroom:n+m<=cap
  .have hfit:n*i.size+news.length<=cur.size:=by rw[hl,hcs,<- Yda];exact Nat.mul_le_mul_right _ hroom
   have hr:=run_append_room (P:=P) w t ty e i ht hi g n cap cur hg ad m c news hl hn h1 hroom hfit;refine⟨_,_,hr,.inr (.inl ⟨g,cap,cur,_,rfl,rfl,hg,hroom,hcm,rfl,?_,?_,hbg⟩)⟩
   .simp only[Yct,Yc,Y9,List.length_drop,Array.length_toList]
    omega
   .rw[htake,<- hlen]
    exact List.take_left
  .have holds:∀j u,xs[j]?=some u->w.cell? ((⟨g,0,none⟩:Addr).add j)=some u:=hown.cells (g:=g) rfl
   have hr:=run_append_grow (P:=P) w t ty e i z ht hi hz ⟨g,0,none⟩ n cap xs hown.1 holds ad m c news hl hn (by omega) (by omega) (growslice_fits (by omega) hbytes);obtain⟨q1,q2,q3,q4⟩:=grown cap;exact⟨_,_,hr,.inr (.inr ⟨_,_,rfl,q1,q2,rfl,q3,q4⟩)⟩
theorem Zki {y:TypeId×Nat}{n:Nat}{cs:List AV}{v:Value}{t:TypeId}{z:Nat}(h:TailOk H w B y (.row n cs) v)(hr:RepV H w (.row n cs) v)(hy:(y.1=t/\y.2=z)\/y.2=0)(hlen:cs.length=n*z):∃xs,RepL H w cs xs/\w.ownsRow B t z v n xs/\∀g,v.ownBlock=some g->H g=some cs.length:=by
 obtain⟨n',cs',e,hh⟩:=h
 cases e
 rw[RepV] at hr;obtain⟨A,c,ev,h0,_,hc⟩:=hr;rcases hh with⟨rfl,rfl⟩|⟨g,cap,cur,rfl,hB,hH,hg,hnc,hcm,hsz,hl,hz⟩
 .have:=h0 rfl
  subst this;exact⟨[],by rw[RepL],World.ownsRow_nil w B t z,λ g hg=>by simp[Yaj] at hg⟩
 .obtain⟨rfl,rfl⟩:y.1=t/\y.2=z:=by
   rcases hy with hy|hy
   .exact hy
   .omega
  have hle:cs.length<=cur.size:=by rw[hl,hsz];exact Nat.mul_le_mul_right _ hnc
  refine⟨cur.toList.take cs.length,?_,⟨?_,.inr ⟨g,cap,cur,rfl,hB,hg,hnc,hcm,hsz,by rw[hl]⟩⟩,λ g' hg'=>?_⟩
  .rcases hc with rfl|⟨b,off,k,hA,hb,_,hcc⟩
   .rw[List.length_nil,List.take_zero,RepL]
   .cases ev
    cases hA
    obtain⟨vs,h1,h2⟩:=Zb8 hcc;have e1:vs=cur.toList.take cs.length:=by
     have hvl:=RepL.length h1
     apply List.ext_getElem
     .rw[hvl,Y9];simp;omega
     .intro j hj hj2
      have:=h2 j vs[j] (List.getElem?_eq_getElem hj);rw[Yb hg,Yw] at this;rw[List.getElem_take];have hj3:j<cur.size:=by omega
      rw[Array.getElem?_eq_getElem hj3] at this
      simpa using (Option.some.inj this).symm
    rw[<- e1];exact h1
  .rw[Y9]
   simp;omega
  .simp only[Yaj,Option.some.injEq] at hg'
   subst hg';exact hH
theorem Znl (hG:Gam B N w0 H0 s a w H φ){t:TypeId}{sl:Nat}{x:Operand}{c:Call}(ho:o.op=.call c)(hcal:c.callee=.builtin .append)(hargs:c.args.toList=[.tmp sl,x])(htys:c.argTypes.toList=[t,t])
 (he:((evalA x).bind λ v=>effAppend P N o.dst t sl v).run s=some (e,l)):Zko P B N w0 H0 o s e a w:=by
 have ha:c.args=#[.tmp sl,x]:=by rw[<- Ybs (xs:=c.args),hargs]
 have hty:c.argTypes=#[t,t]:=by rw[<- Ybs (xs:=c.argTypes),htys]
 obtain⟨v,_,_,h1,h2⟩:=Zg _ _ he;have hv:=Zj hG h1;unfold effAppend at h2
 split at h2
 .rename_i e' hu
  split at h2
  .rename_i i hi
   split at h2
   .rename_i z hz
    simp only[Rd.run] at h2
    cases hsl:s.sl sl with
    | none=>rw[hsl] at h2;cases htl:s.tl sl <;> (rw[htl] at h2;simp[Rd.run] at h2)
    | some old =>
     cases htl:s.tl sl with
     | none=>rw[hsl,htl] at h2;simp[Rd.run] at h2
     | some y =>
      rw[hsl,htl] at h2
      cases old with
      | row n cs =>
       cases v with
       | row m ds =>
        simp only at h2
        split at h2
        .rename_i e1 l1 h3
         simp only[Option.some.injEq,Prod.mk.injEq] at h2;obtain⟨rfl,_⟩:=h2
         split at h3
         .rename_i e2 l2 h4
          simp only[Option.some.injEq,Prod.mk.injEq] at h3;obtain⟨rfl,_⟩:=h3
          split at h4
          .rename_i hh
           obtain⟨hy,hzs,hsz,hlc,hld,h63,hby,hdst⟩:=hh;have hvr:RepV H w (.row m ds) (a.eval x):=by
            rcases hv with⟨_,_,hq,_⟩|hv
            .cases hq
            .exact hv
           rw[RepV] at hvr;obtain⟨A,cp,hx,hm0,hA0,hcx⟩:=hvr;have hold:RepV H w (.row n cs) (a.tmps.getD sl undef):=by
            rcases hG.slot sl _ hsl with⟨_,_,hq,_⟩|hv
            .cases hq
            .exact hv
           obtain⟨x',hx',hok⟩:=hG.tail sl y htl;rw[hsl] at hx'
           cases hx'
           obtain⟨xs,hxs,hown,hHg⟩:=Zki hok hold (t:=e') (z:=i.size) (by obtain⟨y1,y2⟩:=y;exact hy) hlc;obtain⟨news,hnews,hcells⟩:∃news,RepL H w ds news/\∀ad,A=some ad->∀j u,news[j]?=some u->w.cell? (ad.add j)=some u:=by
            rcases hcx with rfl|⟨b,off,k,rfl,_,_,hcc⟩
            .exact⟨[],by rw[RepL],λ ad _ j u hj=>by simp at hj⟩
            .obtain⟨vs,q1,q2⟩:=Zb8 hcc
             refine⟨vs,q1,λ ad had j u hj=>?_⟩
             cases had
             rw[Addr.add_mid];exact q2 j u hj
           have hln:=RepL.length hnews;obtain⟨v',w',hrun,hcase⟩:=Zp6 (P:=P) t o.type e' i z hu hi hz hzs hsz B _ n xs hown A m cp news (by rw[hln,hld]) hA0 hcells (RepL.one hnews) h63 hby;have hex:(execOp a.eval o).run P w=.ok (.value v') w':=by
            have e3:a.eval (.tmp sl)=a.tmps.getD sl undef:=rfl;unfold execOp;simp only[ho,resolve,hcal,ha,hty,invoke,builtin,Yad,Yam,Y0,List.map_toArray,List.map_cons,List.map_nil,hx,e3,hrun]
           intro K Q hK;refine Zdr hex (hK _ _ ?_);have hall:=RepL.append hxs hnews;have hlen:(cs++ds).length=(n+m)*i.size:=by rw[Yc,hlc,hld,Yda]
           rcases Zbp h4 with⟨h5,rfl⟩|⟨d,h5,hd,rfl⟩
           .exfalso
            rw[h5] at hdst
            cases hdst
           .rw[h5]
            rcases hcase with⟨rfl,rfl,rfl⟩|⟨g,cap,cur,cur',hvg,rfl,hg,hnm,hcm,rfl,hsz',htake,hBg⟩|⟨cap,cur',rfl,hnm,hcm,rfl,hsz',htake⟩
            .have hds:ds=[]:=Yz (by rw[hld];simp)
             subst hds;rw[Nat.add_zero,List.append_nil];refine⟨H,φ,hG.next (.inr ⟨d,_,_,rfl,rfl,hd,.inr hold,λ q hq=>⟨?_,λ t' g hne hdr hsm hg hg2=>?_⟩⟩) (Below.refl _ _) (Stay.refl _ _) (λ _ _=>rfl) hG.bnd (λ _ _=>rfl) hG.ent hG.inj (λ _ _ _ _ _ _=>⟨rfl,rfl⟩)⟩
             .cases hq
              obtain⟨n',cs',e9,hh⟩:=hok
              cases e9
              rcases hh with⟨q1,q2⟩|⟨g,cap,cur,q1,q2,q3,q4,q5,q6,q7,q8,q9⟩
              .exact⟨n,cs,rfl,.inl ⟨q1,q2⟩⟩
              .obtain⟨y1,y2⟩:=y
               obtain⟨rfl,rfl⟩:y1=e'/\y2=i.size:=by
                rcases hy with hy|hy
                .exact hy
                .simp only at q9;omega
               exact⟨n,cs,rfl,.inr ⟨g,cap,cur,q1,q2,q3,q4,q5,q6,q7,q8,q9⟩⟩
             .exact hG.tinj t' sl (λ e9=>hdr (by rw[e9])) hsm (by rw[htl];rfl) g hg hg2
            .have hHg':=hHg g (by rw[hvg];rfl)
             have hcur:cur.toList.take (n*i.size)=xs:=by
              rcases hown.2 with⟨q1,_⟩|⟨g2,cap2,cur2,q1,_,q2,_,_,_,q3⟩
              .rw[hvg] at q1;cases q1
              .rw[hvg] at q1
               cases q1
               rw[hg] at q2
               cases q2
               exact q3
             have hxl:=RepL.length hxs;have hother:∀k,k≠g->(w.setRow g cur').heap[k]?=w.heap[k]?:=λ k hk=>setRow_other w _ k _ hk
             have hself:=setRow_heap w g cur cur' e' (0,0) hg;have hsize:(w.setRow g cur').heap.size=w.heap.size:=by simp[World.setRow]
             have hgl:g<w.heap.size:=(Array.getElem?_eq_some_iff.1 hg).1;have hb:Below B w (w.setRow g cur'):=⟨rfl,rfl,rfl,by rw[hsize];exact Yd _,λ k hk=>hother k (by omega)⟩
             obtain⟨H',hH'⟩:∃H':Zl,H'=λ b=>if b=g then some (cs++ds).length else H b:=⟨_,rfl⟩
             have q1:H' g=some (cs++ds).length:=by rw[hH'];simp
             have q2:∀b,b≠g->H' b=H b:=λ b hb=>by rw[hH'];simp[hb]
             have hst:Stay H w H' (w.setRow g cur'):=λ b k hk=>by
              by_cases c:b=g
              .subst c
               rw[hHg'] at hk
               cases hk
               refine⟨_,q1,by rw[Yc];omega,λ q hq=>?_⟩;rw[Yb hself,Yb hg];have e1:cur'[q]?=(xs++news)[q]?:=by
                rw[<- htake,Ybe,if_pos (by rw[<- hlen,Yc];omega)];simp
               have e2:cur[q]?=xs[q]?:=by
                rw[<- hcur,Ybe,if_pos (by rw[<- hlc];omega)];simp
               rw[e1,e2,List.getElem?_append_left (by omega)]
              .exact⟨k,(q2 b c).trans hk,Yd _,λ q _=>World.cell?_of_block (hother b c)⟩
             have hrange:(w.setRow g cur').rangeAt g 0 (xs++news):=λ j u hj=>by
              rw[Yb hself,Yw];have hj2:j<(xs++news).length:=(List.getElem?_eq_some_iff.1 hj).1;have hj3:j<(n+m)*i.size:=by
               rw[<- hlen,Yc];rw[Yc] at hj2;omega
              rw[<- htake,Ybe,if_pos hj3] at hj
              simpa using hj
             refine⟨H',φ,hG.next (.inr ⟨d,_,_,rfl,rfl,hd,.inr ?_,λ q hq=>⟨?_,λ t' g' hne hdr hsm hg1 hg2=>?_⟩⟩) hb hst (λ b hb'=>q2 b (by omega)) (λ b k hk=>?_) (λ _ _=>rfl) (λ j t2 cs2 hj=>?_) hG.inj (λ t' g' _ hdr hsm hg1=>?_)⟩
             .rw[RepV]
              exact⟨_,cap,rfl,λ h0=>Yz (by rw[hlen,h0];simp),λ h0=>(by cases h0),.inr ⟨g,0,_,rfl,q1,by omega,Zho (RepL.stay hst _ _ hall) hrange⟩⟩
             .cases hq
              exact⟨n+m,cs++ds,rfl,.inr ⟨g,cap,cur',rfl,hBg,q1,hself,hnm,hcm,hsz',hlen,hsz⟩⟩
             .simp only[Yaj,Option.some.injEq] at hg2
              subst hg2;exact hG.tinj t' sl (λ e9=>hdr (by rw[e9])) hsm (by rw[htl];rfl) g hg1 (by rw[hvg];rfl)
             .by_cases c:b=g
              .rw[c];exact⟨_,_,hself⟩
              .rw[q2 b c] at hk
               exact(hG.bnd b k hk).of (hother b c)
             .have hj':s.hp j=some (t2,cs2):=hj
              obtain⟨p1,p2,vs2,p3,p4⟩:=hG.ent j t2 cs2 hj';have hne:φ j≠g:=λ e9=>by rw[e9,hHg'] at p2;cases p2
              exact⟨p1,(q2 _ hne).trans p2,vs2,(hother _ hne).trans p3,RepL.stay hst _ _ p4⟩
             .have hne:g'≠g:=λ e9=>by
               subst e9;exact hG.tinj t' sl (λ e9=>hdr (by rw[e9])) hsm (by rw[htl];rfl) g' hg1 (by rw[hvg];rfl)
              exact⟨hother g' hne,q2 g' hne⟩
            .exact Zth hG hd (.inr rfl) hall (by rw[hlen];exact htake) hnm hcm hsz' hlen hsz
          .simp[Rd.run] at h4
         .cases h3
        .cases h2
       | _=>simp[Rd.run] at h2
      | _=>cases v <;> simp[Rd.run] at h2
   .simp[Rd.run] at h2
  .simp[Rd.run] at h2
 .simp[Rd.run] at h2
theorem Ztj (hG:Gam B N w0 H0 s a w H φ){W:World->Prop}(hW:W w){call:FuncId->List AV->Option (AV×Tail)}(hcall:∀f xs r y,call f xs=some (r,y)->AFn P W f xs r y){c:Call}(ho:o.op=.call c){f:Operand}(hcal:c.callee=.value f)
 (he:((evalA f).bind λ g=>(evalsA c.args.toList).bind λ vs=>effCall P N call o.dst g vs).run s=some (e,l)):Zko P B N w0 H0 o s e a w:=by
 obtain⟨g,_,_,h1,h2⟩:=Zg _ _ he;obtain⟨vs,_,_,h3,h4⟩:=Zg _ _ h2;have hg:=Zj hG h1;unfold effCall at h4
 split at h4
 .rename_i k
  split at h4
  .rename_i hh
   obtain⟨hok,hfree⟩:=hh
   split at h4
   .rename_i r y hr
    have hgv:a.eval f=.func (.func k) #[] #[]:=by
     rcases hg with⟨_,_,hq,_⟩|hg
     .cases hq
     .rw[RepV] at hg;exact hg
    have hargs:=Zi9 hG h3 hfree;obtain⟨fn, hfn, hbody, hname⟩ : ∃fn, P.funcs[k]? = some fn ∧ fn.body.isNone = false ∧ (fn.name == "runtime.NumGoroutine") = false := by
     unfold okFn at hok
     split at hok
     .rename_i fn hfn
      simp only[Bool.and_eq_true,Bool.not_eq_true'] at hok;exact⟨fn,hfn,by have:=hok.1;cases hb:fn.body <;> simp_all,hok.2⟩
     .cases hok
    have hex:(execOp a.eval o).run P w=.ok (.enter k (c.args.toList.map a.eval).toArray) w:=by
     unfold execOp;simp only[ho,resolve,hcal,hgv,Deferred.ofValue,Yad,Yam,Y0,invoke,callFunc,run_program,hfn,hname,hbody,Bool.false_eq_true,if_false]
     congr 2
     simp;rw[<- Array.toList_map,Ybs]
    intro K Q hK;unfold Oper.wp;rw[hex];refine Calls.mono (hcall k vs r y hr H w _ hG.bnd hW hargs) ?_;rintro e' w' ⟨v,H',rfl,hb,hH,hbnd,hrep,htail⟩;refine hK _ _ ?_;have hst:Stay H w H' w':=Zce hG hb hH;have hent:∀i t' cs',s.hp i=some (t',cs')->B<=φ i/\H' (φ i)=none/\∃vs:List Value,w'.heap[φ i]?=some (.cells vs.toArray t' (0,0))/\RepL H' w' cs' vs:=λ i t' cs' hi=>by
     obtain⟨p1,p2,vs2,p3,p4⟩:=hG.ent i t' cs' hi;have hlt:=Zja hG (i:=i) (by rw[hi];rfl);exact⟨p1,(hH _ hlt).trans p2,vs2,(hb.block _ hlt).trans p3,RepL.stay hst _ _ p4⟩
    have htl:∀t' g,(s.tl t').isSome=true->(a.tmps.getD t' undef).ownBlock=some g->g<w.heap.size:=λ t' g hsm hg=>by
     obtain⟨y',hy'⟩:=Y8.1 hsm;obtain⟨x,_,hok⟩:=hG.tail t' y' hy';obtain⟨⟨k,hk⟩,_⟩:=hok.own hg;exact(hG.bnd g k hk).lt
    rcases Zbp h4 with⟨h5,rfl⟩|⟨d,h5,hd,rfl⟩
    .rw[h5]
     exact⟨H',φ,hG.next (.inl ⟨rfl,rfl⟩) (hb.mono hG.base) hst (λ b hb'=>hH b (by have:=hG.base;omega)) hbnd (λ _ _=>rfl) (λ i t' cs' hi=>hent i t' cs' hi) hG.inj (λ t' g _ _ hsm hg=>⟨hb.block g (htl t' g hsm hg),hH g (htl t' g hsm hg)⟩)⟩
    .rw[h5]
     refine⟨H',φ,hG.next (.inr ⟨d,_,_,rfl,rfl,hd,.inr hrep,λ z hz=>⟨?_,λ t' g hne hdr hsm hg1 hg2=>?_⟩⟩) (hb.mono hG.base) hst (λ b hb'=>hH b (by have:=hG.base;omega)) hbnd (λ _ _=>rfl) (λ i t' cs' hi=>hent i t' cs' hi) hG.inj (λ t' g _ _ hsm hg=>⟨hb.block g (htl t' g hsm hg),hH g (htl t' g hsm hg)⟩)⟩
     .obtain⟨n,cs,e9,hh⟩:=htail z hz
      refine⟨n,cs,e9,?_⟩;rcases hh with hh|⟨g,cap,cur,q1,q2,q3⟩
      .exact .inl hh
      .exact .inr ⟨g,cap,cur,q1,Nat.le_trans hG.base q2,q3⟩
     .obtain⟨n,cs,e9,hh⟩:=htail z hz
      rcases hh with⟨q1,_⟩|⟨g',cap,cur,q1,q2,q3⟩
      .rw[q1] at hg2;simp[Yaj] at hg2
      .rw[q1] at hg2
       simp only[Yaj,Option.some.injEq] at hg2;subst hg2;have:=htl t' g' hsm hg1;omega
   .simp[Rd.run] at h4
  .simp[Rd.run] at h4
 .simp[Rd.run] at h4
theorem Zhu (hG:Gam B N w0 H0 s a w H φ){m:Sem Value}(hex:execOp a.eval o=(do pure (.value (← m))))(he:((Rd.ofOpt (pureRun P m)).bind λ r=>(Rd.ofOpt (constA r)).bind λ z=>leave N o.dst z none none).run s=some (e,l)):Zko P B N w0 H0 o s e a w:=by
 obtain⟨r,_,_,h1,h2⟩:=Zg _ _ he;obtain⟨z,_,_,h3,h4⟩:=Zg _ _ h2;refine Zz hG h4 (.inr (Zcd (Z2 h3) H w).1) ?_;rw[hex];simp only[Yad,Zhq m (Z2 h1) w,Y0,Yam]
theorem Zp7 (hG:Gam B N w0 H0 s a w H φ){xt:TypeId}{x:Operand}{f:Nat}(ho:o.op=.field xt x f)(he:((evalA x).bind λ v=>effField P N o.dst xt f v).run s=some (e,l)):Zko P B N w0 H0 o s e a w:=by
 obtain⟨v,_,_,h1,h2⟩:=Zg _ _ he;have hv:=Zj hG h1;unfold effField at h2
 split at h2
 .rename_i cs
  split at h2
  .rename_i fields hu
   split at h2
   .rename_i fd hfd
    obtain⟨u,_,_,h3,h4⟩:=Zg _ _ h2;have h5:=Z2 h3;have hvr:RepV H w (.agg cs) (a.eval x):=by
     rcases hv with⟨_,_,hq,_⟩|hv
     .cases hq
     .exact hv
    rw[RepV] at hvr;obtain⟨vs,hx,hl⟩:=hvr;have hpart:∃r,(part fd.type vs.toArray fd.offset).run P w=.ok r w/\RepV H w u r:=by
     unfold loadA at h5
     cases hut:P.underlying fd.type with
     | none=>simp[isAggA,hut] at h5
     | some dd =>
      cases hdd:dd.isRow with
      | true =>
       simp only[isAggA,hut,Yb7,hdd] at h5
       cases hn:sizeA P fd.type with
       | none=>rw[hn] at h5;cases h5
       | some n =>
        rw[hn] at h5;simp only at h5
        split at h5
        .rename_i hle
         cases h5
         obtain⟨i,hi,hin⟩:=Zbr hn;have hagg':(isAgg fd.type).run P w=.ok true w:=by
          unfold isAgg;rw[Yad,run_underlying hut w]
          cases dd <;> simp_all
         refine⟨.agg (vs.toArray.extract fd.offset (fd.offset+i.size)),by simp[part,Yad,hagg',sizeOf,typeInfo,hi],?_⟩;rw[RepV];refine⟨(vs.drop fd.offset).take n,?_,RepL.take n (RepL.drop fd.offset hl)⟩;rw[hin];simp
        .cases h5
      | false =>
       simp only[isAggA,hut,Yb7,hdd] at h5;obtain⟨r,hr,_,hrep⟩:=RepL.at_ hl h5;have hagg':(isAgg fd.type).run P w=.ok false w:=by
        unfold isAgg;rw[Yad,run_underlying hut w]
        cases dd <;> simp_all
       exact⟨r,by simp[part,Yad,hagg',hr],hrep⟩
    obtain⟨r,hrun,hrep⟩:=hpart;refine Zz hG h4 (.inr hrep) ?_;unfold execOp;simp only[ho,hx,Instr.field,Yad,run_underlying hu,Y0,hfd,asAgg,Yam,hrun]
   .simp[Rd.run] at h2
  .simp[Rd.run] at h2
 .simp[Rd.run] at h2
theorem Zik (hG:Gam B N w0 H0 s a w H φ){xt:TypeId}{x:Operand}{f:Nat}(ho:o.op=.fieldAddr xt x f)(he:((evalA x).bind λ v=>effFieldAddr P N o.dst xt f v).run s=some (e,l)):Zko P B N w0 H0 o s e a w:=by
 obtain⟨v,_,_,h1,h2⟩:=Zg _ _ he;have hv:=Zj hG h1;unfold effFieldAddr at h2
 split at h2
 .rename_i i off
  split at h2
  .rename_i fields hu
   split at h2
   .rename_i fd hfd
    split at h2
    .rename_i n hn
     simp only[Rd.run] at h2;rcases hv with⟨i',off',hi,hsm,hx⟩|hv
     .cases hi
      obtain⟨en,hen⟩:=Y8.1 hsm;rw[hen] at h2
      split at h2
      .rename_i e' l' h3
       simp only[Option.some.injEq,Prod.mk.injEq] at h2;obtain⟨rfl,_⟩:=h2;obtain⟨inf,hi,hin⟩:=Zbr hn;refine Zz hG h3 (.inl ⟨i,off+fd.offset,rfl,hsm,rfl⟩) ?_;unfold execOp;simp only[ho,hx,Instr.fieldAt,Yad,run_underlying hu,Y0,hfd,Instr.sureAddr,Yam,fieldPlace,sizeOf,typeInfo,run_program,hi,hin,Addr.add_mid];simp
      .cases h2
     .rw[RepV] at hv;exact hv.elim
    .simp[Rd.run] at h2
   .simp[Rd.run] at h2
  .simp[Rd.run] at h2
 .simp[Rd.run] at h2
theorem Ztk {k:IntKind}{n:Int}{v:Value}(h:Zta H w φ s (.int k n) v):v=.int k n:=by
 rcases h with⟨_,_,hq,_⟩|h
 .cases hq
 .rw[RepV] at h;exact h
theorem Zil (hG:Gam B N w0 H0 s a w H φ){t:TypeId}{x ix:Operand}(ho:o.op=.indexAddr t x ix)(he:((evalA x).bind λ v=>(evalA ix).bind λ u=>effIndexAddr P N o.dst t v u).run s=some (e,l)):Zko P B N w0 H0 o s e a w:=by
 obtain⟨v,_,_,h1,h2⟩:=Zg _ _ he;obtain⟨u,_,_,h3,h4⟩:=Zg _ _ h2;have hv:=Zj hG h1;have hu:=Zj hG h3;unfold effIndexAddr at h4
 split at h4
 .rename_i e' n cs k i hut
  split at h4
  .rename_i z hz
   split at h4
   .rename_i hh
    obtain⟨hi0,hin,hlen,hzp⟩:=hh;obtain⟨inf,hinf,hins⟩:=Zbr hz;have hvr:RepV H w (.row n cs) (a.eval x):=by
     rcases hv with⟨_,_,hq,_⟩|hv
     .cases hq
     .exact hv
    rw[RepV] at hvr;obtain⟨A,c,hx,_,_,hc⟩:=hvr;have hixv:=Ztk hu;have hne:cs≠[]:=λ e9=>by
     rw[e9] at hlen;have:0<n*z:=Nat.mul_pos (by omega) hzp;simp at hlen;omega
    rcases hc with hc|⟨b,q,h,rfl,hH,hle,hcc⟩
    .exact absurd hc hne
    .have hp:RepV H w (.ptr cs (i.toNat*z)) (.pointer (some ⟨b,q+i.toNat*z,none⟩)):=by
      rw[RepV];exact⟨b,q,h,rfl,hH,hle,hcc⟩
     refine Zz hG h4 (.inr hp) ?_
     .unfold execOp
      simp only[ho,hx,hixv,Instr.indexAt,asIntOf,Yad,run_underlying hut,Y0,Yam];rw[if_pos ⟨hi0,hin⟩];simp only[Yad,sizeOf,typeInfo,run_program,hinf,Y0,Yam,hins,Addr.add_mid]
   .simp[Rd.run] at h4
  .simp[Rd.run] at h4
 .rename_i n e' b off k i hut
  split at h4
  .rename_i z hz
   split at h4
   .rename_i hh
    obtain⟨inf,hinf,hins⟩:=Zbr hz;simp only[Rd.run] at h4;rcases hv with⟨i',off',hi,hsm,hx⟩|hv
    .cases hi
     obtain⟨en,hen⟩:=Y8.1 hsm;rw[hen] at h4
     split at h4
     .rename_i e2 l' h5
      simp only[Option.some.injEq,Prod.mk.injEq] at h4;obtain⟨rfl,_⟩:=h4;have hixv:=Ztk hu;refine Zz hG h5 (.inl ⟨b,off+i.toNat*z,rfl,hsm,rfl⟩) ?_;unfold execOp;simp only[ho,hx,hixv,Instr.indexAt,asIntOf,Yad,run_underlying hut,Y0,Yam,Instr.sureAddr];rw[if_pos hh];simp only[Yad,sizeOf,typeInfo,run_program,hinf,Y0,Yam,hins,Addr.add_mid]
     .cases h4
    .rw[RepV] at hv;exact hv.elim
   .simp[Rd.run] at h4
  .simp[Rd.run] at h4
 .simp[Rd.run] at h4
theorem Zl5 (hG:GamX B N w0 H0 s a w){W:World->Prop}(hW:W w){call:FuncId->List AV->Option (AV×Tail)}(hcall:∀f xs r y,call f xs=some (r,y)->AFn P W f xs r y){id:Nat}
 (he:(effOne P N call id o).run s=some (e,l)):Zko P B N w0 H0 o s e a w:=by
 obtain⟨H,φ,hG⟩:=hG;unfold effOne at he
 split at he
 .rename_i x ho;exact Zhs hG (.inr ho) he
 .rename_i x ho;exact Zhs hG (.inl ho) he
 .rename_i c x y ho
  obtain⟨v,_,_,h1,he⟩:=Zg _ _ he;have hv:=Zj hG h1
  split at he
  .rename_i b
   obtain⟨u,_,_,h3,h4⟩:=Zg _ _ he;have hu:=Zj hG h3;have hc:a.eval c=.bool b:=by
    rcases hv with⟨_,_,hq,_⟩|hv
    .cases hq
    .rw[RepV] at hv;exact hv
   refine Zz hG h4 hu ?_;unfold execOp
   cases b <;> simp[ho,hc,asBool]
  .simp[Rd.run] at he
 .rename_i t ho;exact Zp0 hG ho he
 .rename_i t x ho;exact Zwc hG ho he
 .rename_i t ps ho;exact Zp1 hG ho he
 .rename_i t len ps ho;exact Zp4 hG ho he
 .rename_i t x ho;exact Zti hG ho he
 .rename_i t x y ho;exact Zp5 hG ho he
 .rename_i op xt x y yt ho
  obtain⟨v,_,_,h1,he⟩:=Zg _ _ he;obtain⟨u,_,_,h2,he⟩:=Zg _ _ he;obtain⟨v',_,_,h3,he⟩:=Zg _ _ he;obtain⟨u',_,_,h4,he⟩:=Zg _ _ he;have e1:=Zgb (Zj hG h1) (Z2 h3);have e2:=Zgb (Zj hG h2) (Z2 h4);refine Zhu hG (m:=do eqGuard op xt x y v' u';binOp op xt v' u') ?_ he;unfold execOp;simp only[ho,e1,e2]
 .rename_i op xt x ho
  obtain⟨v,_,_,h1,he⟩:=Zg _ _ he;obtain⟨v',_,_,h3,he⟩:=Zg _ _ he;have e1:=Zgb (Zj hG h1) (Z2 h3);refine Zhu hG (m:=Op.unary op v') ?_ he;unfold execOp;simp only[ho,e1]
 .rename_i t t' x ho
  obtain⟨v,_,_,h1,he⟩:=Zg _ _ he;obtain⟨v',_,_,h3,he⟩:=Zg _ _ he;have e1:=Zgb (Zj hG h1) (Z2 h3);refine Zhu hG (m:=convert t t' v') ?_ he;unfold execOp;simp only[ho,e1]
 .rename_i x i ho
  obtain⟨v,_,_,h1,he⟩:=Zg _ _ he;have hv:=Zj hG h1
  split at he
  .rename_i vs
   obtain⟨u,_,_,h3,h4⟩:=Zg _ _ he;have h5:=Z2 h3;rcases hv with⟨_,_,hq,_⟩|hv
   .cases hq
   .rw[RepV] at hv
    obtain⟨us,hx,hT⟩:=hv;obtain⟨r,hr,hrep⟩:=RepT.at_ hT h5;refine Zz hG h4 (.inr hrep) ?_;unfold execOp;have hr':us.toArray[i]?=some r:=by simpa using hr
    simp only[ho,hx,Instr.extract,hr',Yad,Yam,Y0]
  .simp[Rd.run] at he
 .rename_i xt x f ho;exact Zp7 hG ho he
 .rename_i xt x f ho;exact Zik hG ho he
 .rename_i t x i ho;exact Zil hG ho he
 .rename_i c ho
  split at he
  .rename_i f hcal;exact Ztj hG hW hcall ho hcal he
  .rename_i hcal
   split at he
   .rename_i sl x t t' hargs htys
    split at he
    .rename_i htt
     subst htt;exact Znl hG ho hcal hargs htys he
    .simp[Rd.run] at he
   .simp[Rd.run] at he
  .rename_i hcal
   split at he
   .rename_i x t hargs htys
    split at he
    .rename_i et hut
     obtain⟨v,_,_,h1,he⟩:=Zg _ _ he;have hv:=Zj hG h1
     split at he
     .rename_i n cs
      rcases hv with⟨_,_,hq,_⟩|hv
      .cases hq
      .rw[RepV] at hv
       obtain⟨A,cp,hx,_⟩:=hv;have ha:c.args=#[x]:=by rw[<- Ybs (xs:=c.args),hargs]
       have hty:c.argTypes=#[t]:=by rw[<- Ybs (xs:=c.argTypes),htys]
       refine Zz hG he (u:=.int .i64 n) (.inr (by rw[RepV])) ?_;unfold execOp;simp[ho,resolve,hcal,ha,hty,invoke,builtin,hx,Builtin.len_,goInt,run_underlying hut]
     .simp[Rd.run] at he
    .simp[Rd.run] at he
   .simp[Rd.run] at he
  .simp[Rd.run] at he
 .simp[Rd.run] at he
theorem Zoo (hG:GamX B N w0 H0 s a w){W:World->Prop}(hW:W w){call:FuncId->List AV->Option (AV×Tail)}(hcall:∀f xs r y,call f xs=some (r,y)->AFn P W f xs r y){id:Nat}{ops:Array Oper}
 (he:(effOp P N call ops id o).run s=some (e,l)) (K:Act->World->Prop) (Q:Exit->Act->World->Prop) (hK:∀a' w',GamX B N w0 H0 (e.apply s) a' w'->K a' w') :
 (Yah o (yielded ops a.tmps)=true/\o.wp P a w K Q)\/(Yah o (yielded ops a.tmps)=false/\K (a.put o.dst undef) w):=by
 unfold effOp at he
 split at he
 .rename_i hg
  exact .inl ⟨by unfold Yah;rw[hg],Zl5 hG hW hcall he K Q hK⟩
 .rename_i j want hg
  have hwant:Yah o (yielded ops a.tmps)=(yielded ops a.tmps j==some want):=by unfold Yah;rw[hg]
  split at he
  .rename_i d hd
   obtain⟨v,l1,l2,h1,he2⟩:=Zg _ _ he;clear he
   split at he2
   .rename_i b
    have hy:yielded ops a.tmps j=some b:=by
     obtain⟨H,φ,hG⟩:=hG;have hv:a.tmps.getD d undef=.bool b:=by
      rcases Zj hG h1 with⟨_,_,hq,_⟩|hv
      .cases hq
      .rw[RepV] at hv;exact hv
     unfold dstOf at hd
     split at hd
     .rename_i o' ho'
      have hlt:a.tmps[d]?=some (.bool b):=by
       cases hq:a.tmps[d]? with
       | none=>rw[Yca,hq] at hv;cases hv
       | some x=>rw[Yca,hq] at hv;exact congrArg some hv
      unfold yielded;rw[ho'];simp only[Option.bind_some,hd,hlt]
     .cases hd
    rw[hwant,hy]
    split at he2
    .rename_i hb
     subst hb;exact .inl ⟨by simp,Zl5 hG hW hcall he2 K Q hK⟩
    .rename_i hb
     refine .inr ⟨by simpa using hb,hK _ _ ?_⟩;obtain⟨H,φ,hG⟩:=hG;rcases Zbp he2 with⟨h4,rfl⟩|⟨d',h4,hd',rfl⟩
     .rw[h4]
      exact⟨H,φ,hG⟩
     .rw[h4]
      exact⟨H,φ,hG.value hd' (.inr (by rw[RepV];trivial))⟩
   .simp[Rd.run] at he2
  .simp[Rd.run] at he
end
