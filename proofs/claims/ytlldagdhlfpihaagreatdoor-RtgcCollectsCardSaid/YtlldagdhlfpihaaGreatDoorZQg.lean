/- Parts. -/
import Derived.Test.YtlldagdhlfpihaaGreatDoorZQf
set_option linter.unusedVariables false
set_option linter.unusedSimpArgs false
set_option linter.unusedSectionVars false
namespace Go.Proofs.YtlldagdhlfpihaaGreatDoor
open Go.RowKit
def AFn (P:Program)(W:World->Prop)(f:FuncId)(xs:List S.AV)(r:S.AV)(y:S.Tail):Prop :=
 ∀ (H:Rowed) (w:World) (vs:List Value),(∀ b k,H b=some k->b<w.heap.size)->W w->RepT H w xs vs->Calls P f vs.toArray w fun e w' =>
  ∃ v H',e=.returned v/\Below w.heap.size w w'/\(∀ b,b<w.heap.size->H' b=H b)/\(∀ b k,H' b=some k->b<w'.heap.size)/\RepV H' w' r v/\∀ z,y=some z->TailOk H' w' w.heap.size z r v
section
variable {P:Program}{B N:Nat}{w0:World}{H0:Rowed}{s:S.St}{a:Act}{w:World}{H:Rowed}{φ:Nat->Nat}{o:Oper}{e:S.Eff}{l:List Nat}
theorem append_any (t ty e:TypeId)(i:TypeInfo)(z:Value)(ht:P.underlying t=some (.slice e))(hi:P.info? e=some i)(hz:i.zero=some z)(hzs:z.cells.size=i.size)(hsz:0<i.size)
 (base:Nat) (v:Value) (n:Nat) (xs:List Value) (hown:w.ownsRow base e i.size v n xs) (A:Option Addr) (m c:Nat) (news:List Value) (hl:news.length=m*i.size) (hA:A=none->m=0)
 (hnews:∀ ad,A=some ad->∀ j u,news[j]?=some u->w.cell? (ad.add j)=some u) (h1:∀ u∈news,u.oneCell'=true) (h63:n+m<=1000000) (hbytes:(n+m)*i.bytes<=140737488355328) :
 ∃ v' w',(Builtin.append_ #[t,t] ty #[v,.slice A m c]).run P w=.ok v' w' /\
  ((m=0/\v'=v/\w'=w)\/(∃ g cap cur cur',v=.slice (some ⟨g,0,none⟩) n cap/\v'=.slice (some ⟨g,0,none⟩) (n+m) cap/\w.heap[g]?=some (.cells cur e (0,0))/\n+m<=cap/\cap<=maxLen/\w'=w.setRow g cur'/\cur'.size=cap*i.size/\cur'.toList.take ((n+m)*i.size)=xs++news/\base<=g)\/(∃ cap cur',v'=.slice (some ⟨w.heap.size,0,none⟩) (n+m) cap/\n+m<=cap/\cap<=maxLen/\w'=w.drew.alloc (.cells cur' e (0,0))/\cur'.size=cap*i.size/\cur'.toList.take ((n+m)*i.size)=xs++news)):=by
 have hlen:(xs++news).length=(n+m)*i.size:=by rw [List.length_append,hown.1,hl,Nat.add_mul]
 rcases A with _ | ad
 ·have h0:=hA rfl
  subst h0
  exact ⟨v,w,run_append_none w base t _ e i i.size ht hi v n xs hown c,.inl ⟨rfl,rfl,rfl⟩⟩
 have hn:=hnews ad rfl
 have grown:∀ (old:Nat),n+m<=grownCap w (n+m) old e/\grownCap w (n+m) old e<=maxLen/\(xs.toArray++news.toArray++Builtin.zeroCells z.cells (grownCap w (n+m) old e-(n+m))).size=grownCap w (n+m) old e*i.size /\
  (xs.toArray++news.toArray++Builtin.zeroCells z.cells (grownCap w (n+m) old e-(n+m))).toList.take ((n+m)*i.size)=xs++news:=fun old=>by
  have hge:=grownCap_ge w (n+m) old e
  have hcm:grownCap w (n+m) old e<=maxLen:=grownCap_le_maxLen w (n+m) old e (by simp only [maxLen];omega)
  refine ⟨hge,hcm,?_,?_⟩
  ·simp only [Array.size_append,List.size_toArray,size_zeroCells,hzs,hown.1,hl,<- Nat.add_mul]
   congr 1
   omega
  ·simp only [Array.toList_append,List.append_assoc]
   rw [<- List.append_assoc,<- hlen]
   exact List.take_left
 rcases hown.2 with ⟨rfl,rfl⟩ | ⟨g,cap,cur,rfl,hbg,hg,hnc,hcm,hcs,htake⟩
 ·have hx:xs=[]:=List.eq_nil_of_length_eq_zero (by simpa using hown.1)
  subst hx
  by_cases hm:m=0
  ·subst hm
   refine ⟨.slice none 0 0,w,?_,.inl ⟨rfl,rfl,rfl⟩⟩
   simp [Builtin.append_,run_underlying ht,sizeOf,typeInfo,hi,Builtin.lenOf,Builtin.firstCells,loadCells,loadCellsFrom]
  ·have hr:=run_append_nil (P:=P) w t ty e i z ht hi hz ad m c news hl hn (by omega) (by omega) (by have hb:=hbytes;simp only [Nat.zero_add] at hb;omega)
   obtain ⟨q1,q2,q3,q4⟩:=grown 0
   simp only [Nat.zero_add,List.nil_append,Array.empty_append] at q1 q2 q3 q4 ⊢
   exact ⟨_,_,hr,.inr (.inr ⟨_,_,rfl,q1,q2,rfl,q3,q4⟩)⟩
 ·by_cases hroom:n+m<=cap
  ·have hfit:n*i.size+news.length<=cur.size:=by rw [hl,hcs,<- Nat.add_mul];exact Nat.mul_le_mul_right _ hroom
   have hr:=run_append_room (P:=P) w t ty e i ht hi g n cap cur hg ad m c news hl hn h1 hroom hfit
   refine ⟨_,_,hr,.inr (.inl ⟨g,cap,cur,_,rfl,rfl,hg,hroom,hcm,rfl,?_,?_,hbg⟩)⟩
   ·simp only [List.size_toArray,List.length_append,List.length_take,List.length_drop,Array.length_toList]
    omega
   ·rw [htake,<- hlen]
    exact List.take_left
  ·have holds:∀ j u,xs[j]?=some u->w.cell? ((⟨g,0,none⟩:Addr).add j)=some u:=hown.cells (g:=g) rfl
   have hr:=run_append_grow (P:=P) w t ty e i z ht hi hz ⟨g,0,none⟩ n cap xs hown.1 holds ad m c news hl hn (by omega) (by omega) (growslice_fits (by omega) hbytes)
   obtain ⟨q1,q2,q3,q4⟩:=grown cap
   exact ⟨_,_,hr,.inr (.inr ⟨_,_,rfl,q1,q2,rfl,q3,q4⟩)⟩
theorem tail_own {y:TypeId×Nat}{n:Nat}{cs:List S.AV}{v:Value}{t:TypeId}{z:Nat}(h:TailOk H w B y (.row n cs) v)(hr:RepV H w (.row n cs) v)(hy:(y.1=t/\y.2=z)\/y.2=0)(hlen:cs.length=n*z):∃ xs,RepL H w cs xs/\w.ownsRow B t z v n xs/\∀ g,v.ownBlock=some g->H g=some cs.length:=by
 obtain ⟨n',cs',e,hh⟩:=h
 cases e
 rw [RepV] at hr
 obtain ⟨A,c,ev,h0,_,hc⟩:=hr
 rcases hh with ⟨rfl,rfl⟩ | ⟨g,cap,cur,rfl,hB,hH,hg,hnc,hcm,hsz,hl,hz⟩
 ·have:=h0 rfl
  subst this
  exact ⟨[],by rw [RepL],World.ownsRow_nil w B t z,fun g hg=>by simp [Value.ownBlock] at hg⟩
 ·obtain ⟨rfl,rfl⟩:y.1=t/\y.2=z:=by
   rcases hy with hy | hy
   ·exact hy
   ·omega
  have hle:cs.length<=cur.size:=by rw [hl,hsz];exact Nat.mul_le_mul_right _ hnc
  refine ⟨cur.toList.take cs.length,?_,⟨?_,.inr ⟨g,cap,cur,rfl,hB,hg,hnc,hcm,hsz,by rw [hl]⟩⟩,fun g' hg'=>?_⟩
  ·rcases hc with rfl | ⟨b,off,k,hA,hb,_,hcc⟩
   ·rw [List.length_nil,List.take_zero,RepL]
   ·cases ev
    cases hA
    obtain ⟨vs,h1,h2⟩:=repC_list hcc
    have e1:vs=cur.toList.take cs.length:=by
     have hvl:=RepL.length h1
     apply List.ext_getElem
     ·rw [hvl,List.length_take];simp;omega
     ·intro j hj hj2
      have:=h2 j vs[j] (List.getElem?_eq_getElem hj)
      rw [Lib.cell_of_heap hg,Nat.zero_add] at this
      rw [List.getElem_take]
      have hj3:j<cur.size:=by omega
      rw [Array.getElem?_eq_getElem hj3] at this
      simpa using (Option.some.inj this).symm
    rw [<- e1]
    exact h1
  ·rw [List.length_take]
   simp
   omega
  ·simp only [Value.ownBlock,Option.some.injEq] at hg'
   subst hg'
   exact hH
theorem does_append (hG:Gam B N w0 H0 s a w H φ){t:TypeId}{sl:Nat}{x:Operand}{c:Call}(ho:o.op=.call c)(hcal:c.callee=.builtin .append)(hargs:c.args.toList=[.tmp sl,x])(htys:c.argTypes.toList=[t,t])
 (he:((S.evalA x).bind fun v=>S.effAppend P N o.dst t sl v).run s=some (e,l)):Does P B N w0 H0 o s e a w:=by
 have ha:c.args=#[.tmp sl,x]:=by rw [<- Array.toArray_toList (xs:=c.args),hargs]
 have hty:c.argTypes=#[t,t]:=by rw [<- Array.toArray_toList (xs:=c.argTypes),htys]
 obtain ⟨v,_,_,h1,h2⟩:=rd_bind _ _ he
 have hv:=evalA_rep hG h1
 unfold S.effAppend at h2
 split at h2
 ·rename_i e' hu
  split at h2
  ·rename_i i hi
   split at h2
   ·rename_i z hz
    simp only [S.Rd.run] at h2
    cases hsl:s.sl sl with
    | none=>rw [hsl] at h2;cases htl:s.tl sl <;> (rw [htl] at h2;simp [S.Rd.run] at h2)
    | some old =>
     cases htl:s.tl sl with
     | none=>rw [hsl,htl] at h2;simp [S.Rd.run] at h2
     | some y =>
      rw [hsl,htl] at h2
      cases old with
      | row n cs =>
       cases v with
       | row m ds =>
        simp only at h2
        split at h2
        ·rename_i e1 l1 h3
         simp only [Option.some.injEq,Prod.mk.injEq] at h2
         obtain ⟨rfl,_⟩:=h2
         split at h3
         ·rename_i e2 l2 h4
          simp only [Option.some.injEq,Prod.mk.injEq] at h3
          obtain ⟨rfl,_⟩:=h3
          split at h4
          ·rename_i hh
           obtain ⟨hy,hzs,hsz,hlc,hld,h63,hby,hdst⟩:=hh
           have hvr:RepV H w (.row m ds) (a.eval x):=by
            rcases hv with ⟨_,_,hq,_⟩ | hv
            ·cases hq
            ·exact hv
           rw [RepV] at hvr
           obtain ⟨A,cp,hx,hm0,hA0,hcx⟩:=hvr
           have hold:RepV H w (.row n cs) (a.tmps.getD sl undef):=by
            rcases hG.slot sl _ hsl with ⟨_,_,hq,_⟩ | hv
            ·cases hq
            ·exact hv
           obtain ⟨x',hx',hok⟩:=hG.tail sl y htl
           rw [hsl] at hx'
           cases hx'
           obtain ⟨xs,hxs,hown,hHg⟩:=tail_own hok hold (t:=e') (z:=i.size) (by obtain ⟨y1,y2⟩:=y;exact hy) hlc
           obtain ⟨news,hnews,hcells⟩:∃ news,RepL H w ds news/\∀ ad,A=some ad->∀ j u,news[j]?=some u->w.cell? (ad.add j)=some u:=by
            rcases hcx with rfl | ⟨b,off,k,rfl,_,_,hcc⟩
            ·exact ⟨[],by rw [RepL],fun ad _ j u hj=>by simp at hj⟩
            ·obtain ⟨vs,q1,q2⟩:=repC_list hcc
             refine ⟨vs,q1,fun ad had j u hj=>?_⟩
             cases had
             rw [Addr.add_mid]
             exact q2 j u hj
           have hln:=RepL.length hnews
           obtain ⟨v',w',hrun,hcase⟩:=append_any (P:=P) t o.type e' i z hu hi hz hzs hsz B _ n xs hown A m cp news (by rw [hln,hld]) hA0 hcells (RepL.one hnews) h63 hby
           have hex:(execOp a.eval o).run P w=.ok (.value v') w':=by
            have e3:a.eval (.tmp sl)=a.tmps.getD sl undef:=rfl
            unfold execOp
            simp only [ho,resolve,hcal,ha,hty,invoke,builtin,Sem.run_bind,Sem.run_pure,Result.andThen_ok,List.map_toArray,List.map_cons,List.map_nil,hx,e3,hrun]
           intro K Q hK
           refine wp_value hex (hK _ _ ?_)
           have hall:=RepL.append hxs hnews
           have hlen:(cs++ds).length=(n+m)*i.size:=by rw [List.length_append,hlc,hld,Nat.add_mul]
           rcases leave_eff h4 with ⟨h5,rfl⟩ | ⟨d,h5,hd,rfl⟩
           ·exfalso
            rw [h5] at hdst
            cases hdst
           ·rw [h5]
            rcases hcase with ⟨rfl,rfl,rfl⟩ | ⟨g,cap,cur,cur',hvg,rfl,hg,hnm,hcm,rfl,hsz',htake,hBg⟩ | ⟨cap,cur',rfl,hnm,hcm,rfl,hsz',htake⟩
            ·have hds:ds=[]:=List.eq_nil_of_length_eq_zero (by rw [hld];simp)
             subst hds
             rw [Nat.add_zero,List.append_nil]
             refine ⟨H,φ,hG.next (.inr ⟨d,_,_,rfl,rfl,hd,.inr hold,fun q hq=>⟨?_,fun t' g hne hdr hsm hg hg2=>?_⟩⟩) (Below.refl _ _) (Stay.refl _ _) (fun _ _=>rfl) hG.bnd (fun _ _=>rfl) hG.ent hG.inj (fun _ _ _ _ _ _=>⟨rfl,rfl⟩)⟩
             ·cases hq
              obtain ⟨n',cs',e9,hh⟩:=hok
              cases e9
              rcases hh with ⟨q1,q2⟩ | ⟨g,cap,cur,q1,q2,q3,q4,q5,q6,q7,q8,q9⟩
              ·exact ⟨n,cs,rfl,.inl ⟨q1,q2⟩⟩
              ·obtain ⟨y1,y2⟩:=y
               obtain ⟨rfl,rfl⟩:y1=e'/\y2=i.size:=by
                rcases hy with hy | hy
                ·exact hy
                ·simp only at q9;omega
               exact ⟨n,cs,rfl,.inr ⟨g,cap,cur,q1,q2,q3,q4,q5,q6,q7,q8,q9⟩⟩
             ·exact hG.tinj t' sl (fun e9=>hdr (by rw [e9])) hsm (by rw [htl];rfl) g hg hg2
            ·have hHg':=hHg g (by rw [hvg];rfl)
             have hcur:cur.toList.take (n*i.size)=xs:=by
              rcases hown.2 with ⟨q1,_⟩ | ⟨g2,cap2,cur2,q1,_,q2,_,_,_,q3⟩
              ·rw [hvg] at q1;cases q1
              ·rw [hvg] at q1
               cases q1
               rw [hg] at q2
               cases q2
               exact q3
             have hxl:=RepL.length hxs
             have hother:∀ k,k≠g->(w.setRow g cur').heap[k]?=w.heap[k]?:=fun k hk=>setRow_other w _ k _ hk
             have hself:=setRow_heap w g cur cur' e' (0,0) hg
             have hsize:(w.setRow g cur').heap.size=w.heap.size:=by simp [World.setRow]
             have hgl:g<w.heap.size:=(Array.getElem?_eq_some_iff.1 hg).1
             have hb:Below B w (w.setRow g cur'):=⟨rfl,rfl,rfl,by rw [hsize];exact Nat.le_refl _,fun k hk=>hother k (by omega)⟩
             obtain ⟨H',hH'⟩:∃ H':Rowed,H'=fun b=>if b=g then some (cs++ds).length else H b:=⟨_,rfl⟩
             have q1:H' g=some (cs++ds).length:=by rw [hH'];simp
             have q2:∀ b,b≠g->H' b=H b:=fun b hb=>by rw [hH'];simp [hb]
             have hst:Stay H w H' (w.setRow g cur'):=fun b k hk=>by
              by_cases c:b=g
              ·subst c
               rw [hHg'] at hk
               cases hk
               refine ⟨_,q1,by rw [List.length_append];omega,fun q hq=>?_⟩
               rw [Lib.cell_of_heap hself,Lib.cell_of_heap hg]
               have e1:cur'[q]?=(xs++news)[q]?:=by
                rw [<- htake,List.getElem?_take,if_pos (by rw [<- hlen,List.length_append];omega)]
                simp
               have e2:cur[q]?=xs[q]?:=by
                rw [<- hcur,List.getElem?_take,if_pos (by rw [<- hlc];omega)]
                simp
               rw [e1,e2,List.getElem?_append_left (by omega)]
              ·exact ⟨k,(q2 b c).trans hk,Nat.le_refl _,fun q _=>World.cell?_of_block (hother b c)⟩
             have hrange:(w.setRow g cur').rangeAt g 0 (xs++news):=fun j u hj=>by
              rw [Lib.cell_of_heap hself,Nat.zero_add]
              have hj2:j<(xs++news).length:=(List.getElem?_eq_some_iff.1 hj).1
              have hj3:j<(n+m)*i.size:=by
               rw [<- hlen,List.length_append]
               rw [List.length_append] at hj2
               omega
              rw [<- htake,List.getElem?_take,if_pos hj3] at hj
              simpa using hj
             refine ⟨H',φ,hG.next (.inr ⟨d,_,_,rfl,rfl,hd,.inr ?_,fun q hq=>⟨?_,fun t' g' hne hdr hsm hg1 hg2=>?_⟩⟩) hb hst (fun b hb'=>q2 b (by omega)) (fun b k hk=>?_) (fun _ _=>rfl) (fun j t2 cs2 hj=>?_) hG.inj (fun t' g' _ hdr hsm hg1=>?_)⟩
             ·rw [RepV]
              exact ⟨_,cap,rfl,fun h0=>List.eq_nil_of_length_eq_zero (by rw [hlen,h0];simp),fun h0=>(by cases h0),.inr ⟨g,0,_,rfl,q1,by omega,repC_of (RepL.stay hst _ _ hall) hrange⟩⟩
             ·cases hq
              exact ⟨n+m,cs++ds,rfl,.inr ⟨g,cap,cur',rfl,hBg,q1,hself,hnm,hcm,hsz',hlen,hsz⟩⟩
             ·simp only [Value.ownBlock,Option.some.injEq] at hg2
              subst hg2
              exact hG.tinj t' sl (fun e9=>hdr (by rw [e9])) hsm (by rw [htl];rfl) g hg1 (by rw [hvg];rfl)
             ·rw [hsize]
              by_cases c:b=g
              ·rw [c];exact hgl
              ·rw [q2 b c] at hk
               exact hG.bnd b k hk
             ·have hj':s.hp j=some (t2,cs2):=hj
              obtain ⟨p1,p2,vs2,p3,p4⟩:=hG.ent j t2 cs2 hj'
              have hne:φ j≠g:=fun e9=>by rw [e9,hHg'] at p2;cases p2
              exact ⟨p1,(q2 _ hne).trans p2,vs2,(hother _ hne).trans p3,RepL.stay hst _ _ p4⟩
             ·have hne:g'≠g:=fun e9=>by
               subst e9
               exact hG.tinj t' sl (fun e9=>hdr (by rw [e9])) hsm (by rw [htl];rfl) g' hg1 (by rw [hvg];rfl)
              exact ⟨hother g' hne,q2 g' hne⟩
            ·exact gam_row hG hd (.inr rfl) hall (by rw [hlen];exact htake) hnm hcm hsz' hlen hsz
          ·simp [S.Rd.run] at h4
         ·cases h3
        ·cases h2
       | _=>simp [S.Rd.run] at h2
      | _=>cases v <;> simp [S.Rd.run] at h2
   ·simp [S.Rd.run] at h2
  ·simp [S.Rd.run] at h2
 ·simp [S.Rd.run] at h2
theorem does_call (hG:Gam B N w0 H0 s a w H φ){W:World->Prop}(hW:W w){call:FuncId->List S.AV->Option (S.AV×S.Tail)}(hcall:∀ f xs r y,call f xs=some (r,y)->AFn P W f xs r y){c:Call}(ho:o.op=.call c){f:Operand}(hcal:c.callee=.value f)
 (he:((S.evalA f).bind fun g=>(S.evalsA c.args.toList).bind fun vs=>S.effCall P N call o.dst g vs).run s=some (e,l)):Does P B N w0 H0 o s e a w:=by
 obtain ⟨g,_,_,h1,h2⟩:=rd_bind _ _ he
 obtain ⟨vs,_,_,h3,h4⟩:=rd_bind _ _ h2
 have hg:=evalA_rep hG h1
 unfold S.effCall at h4
 split at h4
 ·rename_i k
  split at h4
  ·rename_i hh
   obtain ⟨hok,hfree⟩:=hh
   split at h4
   ·rename_i r y hr
    have hgv:a.eval f=.func (.func k) #[] #[]:=by
     rcases hg with ⟨_,_,hq,_⟩ | hg
     ·cases hq
     ·rw [RepV] at hg;exact hg
    have hargs:=evalsA_rep hG h3 hfree
    obtain ⟨fn, hfn, hbody, hname⟩ : ∃ fn, P.funcs[k]? = some fn ∧ fn.body.isNone = false ∧ (fn.name == "runtime.NumGoroutine") = false := by
     unfold S.okFn at hok
     split at hok
     ·rename_i fn hfn
      simp only [Bool.and_eq_true,Bool.not_eq_true'] at hok
      exact ⟨fn,hfn,by have:=hok.1;cases hb:fn.body <;> simp_all,hok.2⟩
     ·cases hok
    have hex:(execOp a.eval o).run P w=.ok (.enter k (c.args.toList.map a.eval).toArray) w:=by
     unfold execOp
     simp only [ho,resolve,hcal,hgv,Deferred.ofValue,Sem.run_bind,Sem.run_pure,Result.andThen_ok,invoke,callFunc,run_program,hfn,hname,hbody,Bool.false_eq_true,if_false]
     congr 2
     simp
     rw [<- Array.toList_map,Array.toArray_toList]
    intro K Q hK
    unfold Oper.wp
    rw [hex]
    refine Calls.mono (hcall k vs r y hr H w _ hG.bnd hW hargs) ?_
    rintro e' w' ⟨v,H',rfl,hb,hH,hbnd,hrep,htail⟩
    refine hK _ _ ?_
    have hst:Stay H w H' w':=stay_below hG hb hH
    have hent:∀ i t' cs',s.hp i=some (t',cs')->B<=φ i/\H' (φ i)=none/\∃ vs:List Value,w'.heap[φ i]?=some (.cells vs.toArray t' (0,0))/\RepL H' w' cs' vs:=fun i t' cs' hi=>by
     obtain ⟨p1,p2,vs2,p3,p4⟩:=hG.ent i t' cs' hi
     have hlt:=phi_lt hG (i:=i) (by rw [hi];rfl)
     exact ⟨p1,(hH _ hlt).trans p2,vs2,(hb.block _ hlt).trans p3,RepL.stay hst _ _ p4⟩
    have htl:∀ t' g,(s.tl t').isSome=true->(a.tmps.getD t' undef).ownBlock=some g->g<w.heap.size:=fun t' g hsm hg=>by
     obtain ⟨y',hy'⟩:=Option.isSome_iff_exists.1 hsm
     obtain ⟨x,_,hok⟩:=hG.tail t' y' hy'
     obtain ⟨⟨k,hk⟩,_⟩:=hok.own hg
     exact hG.bnd g k hk
    rcases leave_eff h4 with ⟨h5,rfl⟩ | ⟨d,h5,hd,rfl⟩
    ·rw [h5]
     exact ⟨H',φ,hG.next (.inl ⟨rfl,rfl⟩) (hb.mono hG.base) hst (fun b hb'=>hH b (by have:=hG.base;omega)) hbnd (fun _ _=>rfl) (fun i t' cs' hi=>hent i t' cs' hi) hG.inj (fun t' g _ _ hsm hg=>⟨hb.block g (htl t' g hsm hg),hH g (htl t' g hsm hg)⟩)⟩
    ·rw [h5]
     refine ⟨H',φ,hG.next (.inr ⟨d,_,_,rfl,rfl,hd,.inr hrep,fun z hz=>⟨?_,fun t' g hne hdr hsm hg1 hg2=>?_⟩⟩) (hb.mono hG.base) hst (fun b hb'=>hH b (by have:=hG.base;omega)) hbnd (fun _ _=>rfl) (fun i t' cs' hi=>hent i t' cs' hi) hG.inj (fun t' g _ _ hsm hg=>⟨hb.block g (htl t' g hsm hg),hH g (htl t' g hsm hg)⟩)⟩
     ·obtain ⟨n,cs,e9,hh⟩:=htail z hz
      refine ⟨n,cs,e9,?_⟩
      rcases hh with hh | ⟨g,cap,cur,q1,q2,q3⟩
      ·exact .inl hh
      ·exact .inr ⟨g,cap,cur,q1,Nat.le_trans hG.base q2,q3⟩
     ·obtain ⟨n,cs,e9,hh⟩:=htail z hz
      rcases hh with ⟨q1,_⟩ | ⟨g',cap,cur,q1,q2,q3⟩
      ·rw [q1] at hg2;simp [Value.ownBlock] at hg2
      ·rw [q1] at hg2
       simp only [Value.ownBlock,Option.some.injEq] at hg2
       subst hg2
       have:=htl t' g' hsm hg1
       omega
   ·simp [S.Rd.run] at h4
  ·simp [S.Rd.run] at h4
 ·simp [S.Rd.run] at h4
theorem does_pure (hG:Gam B N w0 H0 s a w H φ){m:Sem Value}(hex:execOp a.eval o=(do pure (.value (← m))))(he:((S.Rd.ofOpt (S.pureRun P m)).bind fun r=>(S.Rd.ofOpt (S.constA r)).bind fun z=>S.leave N o.dst z none none).run s=some (e,l)):Does P B N w0 H0 o s e a w:=by
 obtain ⟨r,_,_,h1,h2⟩:=rd_bind _ _ he
 obtain ⟨z,_,_,h3,h4⟩:=rd_bind _ _ h2
 refine does_value hG h4 (.inr (constA_rep (rd_ofOpt h3) H w).1) ?_
 rw [hex]
 simp only [Sem.run_bind,pureRun_run m (rd_ofOpt h1) w,Result.andThen_ok,Sem.run_pure]
theorem does_field (hG:Gam B N w0 H0 s a w H φ){xt:TypeId}{x:Operand}{f:Nat}(ho:o.op=.field xt x f)(he:((S.evalA x).bind fun v=>S.effField P N o.dst xt f v).run s=some (e,l)):Does P B N w0 H0 o s e a w:=by
 obtain ⟨v,_,_,h1,h2⟩:=rd_bind _ _ he
 have hv:=evalA_rep hG h1
 unfold S.effField at h2
 split at h2
 ·rename_i cs
  split at h2
  ·rename_i fields hu
   split at h2
   ·rename_i fd hfd
    obtain ⟨u,_,_,h3,h4⟩:=rd_bind _ _ h2
    have h5:=rd_ofOpt h3
    have hvr:RepV H w (.agg cs) (a.eval x):=by
     rcases hv with ⟨_,_,hq,_⟩ | hv
     ·cases hq
     ·exact hv
    rw [RepV] at hvr
    obtain ⟨vs,hx,hl⟩:=hvr
    have hpart:∃ r,(part fd.type vs.toArray fd.offset).run P w=.ok r w/\RepV H w u r:=by
     unfold S.loadA at h5
     cases hut:P.underlying fd.type with
     | none=>simp [S.isAggA,hut] at h5
     | some dd =>
      cases hdd:dd.isRow with
      | true =>
       simp only [S.isAggA,hut,Option.map_some,hdd] at h5
       cases hn:S.sizeA P fd.type with
       | none=>rw [hn] at h5;cases h5
       | some n =>
        rw [hn] at h5
        simp only at h5
        split at h5
        ·rename_i hle
         cases h5
         obtain ⟨i,hi,hin⟩:=size_info hn
         have hagg':(isAgg fd.type).run P w=.ok true w:=by
          unfold isAgg
          rw [Sem.run_bind,run_underlying hut w]
          cases dd <;> simp_all
         refine ⟨.agg (vs.toArray.extract fd.offset (fd.offset+i.size)),by simp [part,Sem.run_bind,hagg',sizeOf,typeInfo,hi],?_⟩
         rw [RepV]
         refine ⟨(vs.drop fd.offset).take n,?_,RepL.take n (RepL.drop fd.offset hl)⟩
         rw [hin]
         simp
        ·cases h5
      | false =>
       simp only [S.isAggA,hut,Option.map_some,hdd] at h5
       obtain ⟨r,hr,_,hrep⟩:=RepL.at_ hl h5
       have hagg':(isAgg fd.type).run P w=.ok false w:=by
        unfold isAgg
        rw [Sem.run_bind,run_underlying hut w]
        cases dd <;> simp_all
       exact ⟨r,by simp [part,Sem.run_bind,hagg',hr],hrep⟩
    obtain ⟨r,hrun,hrep⟩:=hpart
    refine does_value hG h4 (.inr hrep) ?_
    unfold execOp
    simp only [ho,hx,Instr.field,Sem.run_bind,run_underlying hu,Result.andThen_ok,hfd,asAgg,Sem.run_pure,hrun]
   ·simp [S.Rd.run] at h2
  ·simp [S.Rd.run] at h2
 ·simp [S.Rd.run] at h2
theorem does_fieldAddr (hG:Gam B N w0 H0 s a w H φ){xt:TypeId}{x:Operand}{f:Nat}(ho:o.op=.fieldAddr xt x f)(he:((S.evalA x).bind fun v=>S.effFieldAddr P N o.dst xt f v).run s=some (e,l)):Does P B N w0 H0 o s e a w:=by
 obtain ⟨v,_,_,h1,h2⟩:=rd_bind _ _ he
 have hv:=evalA_rep hG h1
 unfold S.effFieldAddr at h2
 split at h2
 ·rename_i i off
  split at h2
  ·rename_i fields hu
   split at h2
   ·rename_i fd hfd
    split at h2
    ·rename_i n hn
     simp only [S.Rd.run] at h2
     rcases hv with ⟨i',off',hi,hsm,hx⟩ | hv
     ·cases hi
      obtain ⟨en,hen⟩:=Option.isSome_iff_exists.1 hsm
      rw [hen] at h2
      split at h2
      ·rename_i e' l' h3
       simp only [Option.some.injEq,Prod.mk.injEq] at h2
       obtain ⟨rfl,_⟩:=h2
       obtain ⟨inf,hi,hin⟩:=size_info hn
       refine does_value hG h3 (.inl ⟨i,off+fd.offset,rfl,hsm,rfl⟩) ?_
       unfold execOp
       simp only [ho,hx,Instr.fieldAt,Sem.run_bind,run_underlying hu,Result.andThen_ok,hfd,Instr.sureAddr,Sem.run_pure,fieldPlace,sizeOf,typeInfo,run_program,hi,hin,Addr.add_mid]
       simp
      ·cases h2
     ·rw [RepV] at hv;exact hv.elim
    ·simp [S.Rd.run] at h2
   ·simp [S.Rd.run] at h2
  ·simp [S.Rd.run] at h2
 ·simp [S.Rd.run] at h2
theorem int_rep {k:IntKind}{n:Int}{v:Value}(h:RepS H w φ s (.int k n) v):v=.int k n:=by
 rcases h with ⟨_,_,hq,_⟩ | h
 ·cases hq
 ·rw [RepV] at h;exact h
theorem does_indexAddr (hG:Gam B N w0 H0 s a w H φ){t:TypeId}{x ix:Operand}(ho:o.op=.indexAddr t x ix)(he:((S.evalA x).bind fun v=>(S.evalA ix).bind fun u=>S.effIndexAddr P N o.dst t v u).run s=some (e,l)):Does P B N w0 H0 o s e a w:=by
 obtain ⟨v,_,_,h1,h2⟩:=rd_bind _ _ he
 obtain ⟨u,_,_,h3,h4⟩:=rd_bind _ _ h2
 have hv:=evalA_rep hG h1
 have hu:=evalA_rep hG h3
 unfold S.effIndexAddr at h4
 split at h4
 ·rename_i e' n cs k i hut
  split at h4
  ·rename_i z hz
   split at h4
   ·rename_i hh
    obtain ⟨hi0,hin,hlen,hzp⟩:=hh
    obtain ⟨inf,hinf,hins⟩:=size_info hz
    have hvr:RepV H w (.row n cs) (a.eval x):=by
     rcases hv with ⟨_,_,hq,_⟩ | hv
     ·cases hq
     ·exact hv
    rw [RepV] at hvr
    obtain ⟨A,c,hx,_,_,hc⟩:=hvr
    have hixv:=int_rep hu
    have hne:cs≠[]:=fun e9=>by
     rw [e9] at hlen
     have:0<n*z:=Nat.mul_pos (by omega) hzp
     simp at hlen
     omega
    rcases hc with hc | ⟨b,q,h,rfl,hH,hle,hcc⟩
    ·exact absurd hc hne
    ·have hp:RepV H w (.ptr cs (i.toNat*z)) (.pointer (some ⟨b,q+i.toNat*z,none⟩)):=by
      rw [RepV]
      exact ⟨b,q,h,rfl,hH,hle,hcc⟩
     refine does_value hG h4 (.inr hp) ?_
     ·unfold execOp
      simp only [ho,hx,hixv,Instr.indexAt,asIntOf,Sem.run_bind,run_underlying hut,Result.andThen_ok,Sem.run_pure]
      rw [if_pos ⟨hi0,hin⟩]
      simp only [Sem.run_bind,sizeOf,typeInfo,run_program,hinf,Result.andThen_ok,Sem.run_pure,hins,Addr.add_mid]
   ·simp [S.Rd.run] at h4
  ·simp [S.Rd.run] at h4
 ·rename_i n e' b off k i hut
  split at h4
  ·rename_i z hz
   split at h4
   ·rename_i hh
    obtain ⟨inf,hinf,hins⟩:=size_info hz
    simp only [S.Rd.run] at h4
    rcases hv with ⟨i',off',hi,hsm,hx⟩ | hv
    ·cases hi
     obtain ⟨en,hen⟩:=Option.isSome_iff_exists.1 hsm
     rw [hen] at h4
     split at h4
     ·rename_i e2 l' h5
      simp only [Option.some.injEq,Prod.mk.injEq] at h4
      obtain ⟨rfl,_⟩:=h4
      have hixv:=int_rep hu
      refine does_value hG h5 (.inl ⟨b,off+i.toNat*z,rfl,hsm,rfl⟩) ?_
      unfold execOp
      simp only [ho,hx,hixv,Instr.indexAt,asIntOf,Sem.run_bind,run_underlying hut,Result.andThen_ok,Sem.run_pure,Instr.sureAddr]
      rw [if_pos hh]
      simp only [Sem.run_bind,sizeOf,typeInfo,run_program,hinf,Result.andThen_ok,Sem.run_pure,hins,Addr.add_mid]
     ·cases h4
    ·rw [RepV] at hv;exact hv.elim
   ·simp [S.Rd.run] at h4
  ·simp [S.Rd.run] at h4
 ·simp [S.Rd.run] at h4
theorem one_sound (hG:GamX B N w0 H0 s a w){W:World->Prop}(hW:W w){call:FuncId->List S.AV->Option (S.AV×S.Tail)}(hcall:∀ f xs r y,call f xs=some (r,y)->AFn P W f xs r y){id:Nat}
 (he:(S.effOne P N call id o).run s=some (e,l)):Does P B N w0 H0 o s e a w:=by
 obtain ⟨H,φ,hG⟩:=hG
 unfold S.effOne at he
 split at he
 ·rename_i x ho;exact does_assign hG (.inr ho) he
 ·rename_i x ho;exact does_assign hG (.inl ho) he
 ·rename_i c x y ho
  obtain ⟨v,_,_,h1,he⟩:=rd_bind _ _ he
  have hv:=evalA_rep hG h1
  split at he
  ·rename_i b
   obtain ⟨u,_,_,h3,h4⟩:=rd_bind _ _ he
   have hu:=evalA_rep hG h3
   have hc:a.eval c=.bool b:=by
    rcases hv with ⟨_,_,hq,_⟩ | hv
    ·cases hq
    ·rw [RepV] at hv;exact hv
   refine does_value hG h4 hu ?_
   unfold execOp
   cases b <;> simp [ho,hc,asBool]
  ·simp [S.Rd.run] at he
 ·rename_i t ho;exact does_alloc hG ho he
 ·rename_i t x ho;exact does_box hG ho he
 ·rename_i t ps ho;exact does_build hG ho he
 ·rename_i t len ps ho;exact does_slice hG ho he
 ·rename_i t x ho;exact does_load hG ho he
 ·rename_i t x y ho;exact does_store hG ho he
 ·rename_i op xt x y yt ho
  obtain ⟨v,_,_,h1,he⟩:=rd_bind _ _ he
  obtain ⟨u,_,_,h2,he⟩:=rd_bind _ _ he
  obtain ⟨v',_,_,h3,he⟩:=rd_bind _ _ he
  obtain ⟨u',_,_,h4,he⟩:=rd_bind _ _ he
  have e1:=scal_rep (evalA_rep hG h1) (rd_ofOpt h3)
  have e2:=scal_rep (evalA_rep hG h2) (rd_ofOpt h4)
  refine does_pure hG (m:=do eqGuard op xt x y v' u';binOp op xt v' u') ?_ he
  unfold execOp
  simp only [ho,e1,e2]
 ·rename_i op xt x ho
  obtain ⟨v,_,_,h1,he⟩:=rd_bind _ _ he
  obtain ⟨v',_,_,h3,he⟩:=rd_bind _ _ he
  have e1:=scal_rep (evalA_rep hG h1) (rd_ofOpt h3)
  refine does_pure hG (m:=Op.unary op v') ?_ he
  unfold execOp
  simp only [ho,e1]
 ·rename_i t t' x ho
  obtain ⟨v,_,_,h1,he⟩:=rd_bind _ _ he
  obtain ⟨v',_,_,h3,he⟩:=rd_bind _ _ he
  have e1:=scal_rep (evalA_rep hG h1) (rd_ofOpt h3)
  refine does_pure hG (m:=convert t t' v') ?_ he
  unfold execOp
  simp only [ho,e1]
 ·rename_i x i ho
  obtain ⟨v,_,_,h1,he⟩:=rd_bind _ _ he
  have hv:=evalA_rep hG h1
  split at he
  ·rename_i vs
   obtain ⟨u,_,_,h3,h4⟩:=rd_bind _ _ he
   have h5:=rd_ofOpt h3
   rcases hv with ⟨_,_,hq,_⟩ | hv
   ·cases hq
   ·rw [RepV] at hv
    obtain ⟨us,hx,hT⟩:=hv
    obtain ⟨r,hr,hrep⟩:=RepT.at_ hT h5
    refine does_value hG h4 (.inr hrep) ?_
    unfold execOp
    have hr':us.toArray[i]?=some r:=by simpa using hr
    simp only [ho,hx,Instr.extract,hr',Sem.run_bind,Sem.run_pure,Result.andThen_ok]
  ·simp [S.Rd.run] at he
 ·rename_i xt x f ho;exact does_field hG ho he
 ·rename_i xt x f ho;exact does_fieldAddr hG ho he
 ·rename_i t x i ho;exact does_indexAddr hG ho he
 ·rename_i c ho
  split at he
  ·rename_i f hcal;exact does_call hG hW hcall ho hcal he
  ·rename_i hcal
   split at he
   ·rename_i sl x t t' hargs htys
    split at he
    ·rename_i htt
     subst htt
     exact does_append hG ho hcal hargs htys he
    ·simp [S.Rd.run] at he
   ·simp [S.Rd.run] at he
  ·rename_i hcal
   split at he
   ·rename_i x t hargs htys
    split at he
    ·rename_i et hut
     obtain ⟨v,_,_,h1,he⟩:=rd_bind _ _ he
     have hv:=evalA_rep hG h1
     split at he
     ·rename_i n cs
      rcases hv with ⟨_,_,hq,_⟩ | hv
      ·cases hq
      ·rw [RepV] at hv
       obtain ⟨A,cp,hx,_⟩:=hv
       have ha:c.args=#[x]:=by rw [<- Array.toArray_toList (xs:=c.args),hargs]
       have hty:c.argTypes=#[t]:=by rw [<- Array.toArray_toList (xs:=c.argTypes),htys]
       refine does_value hG he (u:=.int .i64 n) (.inr (by rw [RepV])) ?_
       unfold execOp
       simp [ho,resolve,hcal,ha,hty,invoke,builtin,hx,Builtin.len_,goInt,run_underlying hut]
     ·simp [S.Rd.run] at he
    ·simp [S.Rd.run] at he
   ·simp [S.Rd.run] at he
  ·simp [S.Rd.run] at he
 ·simp [S.Rd.run] at he
theorem op_sound (hG:GamX B N w0 H0 s a w){W:World->Prop}(hW:W w){call:FuncId->List S.AV->Option (S.AV×S.Tail)}(hcall:∀ f xs r y,call f xs=some (r,y)->AFn P W f xs r y){id:Nat}{ops:Array Oper}
 (he:(S.effOp P N call ops id o).run s=some (e,l)) (K:Act->World->Prop) (Q:Exit->Act->World->Prop) (hK:∀ a' w',GamX B N w0 H0 (e.apply s) a' w'->K a' w') :
 (Region.wanted o (yielded ops a.tmps)=true/\o.wp P a w K Q)\/(Region.wanted o (yielded ops a.tmps)=false/\K (a.put o.dst undef) w):=by
 unfold S.effOp at he
 split at he
 ·rename_i hg
  exact .inl ⟨by unfold Region.wanted;rw [hg],one_sound hG hW hcall he K Q hK⟩
 ·rename_i j want hg
  have hwant:Region.wanted o (yielded ops a.tmps)=(yielded ops a.tmps j==some want):=by unfold Region.wanted;rw [hg]
  split at he
  ·rename_i d hd
   obtain ⟨v,l1,l2,h1,he2⟩:=rd_bind _ _ he
   clear he
   split at he2
   ·rename_i b
    have hy:yielded ops a.tmps j=some b:=by
     obtain ⟨H,φ,hG⟩:=hG
     have hv:a.tmps.getD d undef=.bool b:=by
      rcases evalA_rep hG h1 with ⟨_,_,hq,_⟩ | hv
      ·cases hq
      ·rw [RepV] at hv;exact hv
     unfold S.dstOf at hd
     split at hd
     ·rename_i o' ho'
      have hlt:a.tmps[d]?=some (.bool b):=by
       cases hq:a.tmps[d]? with
       | none=>rw [Array.getD_eq_getD_getElem?,hq] at hv;cases hv
       | some x=>rw [Array.getD_eq_getD_getElem?,hq] at hv;exact congrArg some hv
      unfold yielded
      rw [ho']
      simp only [Option.bind_some,hd,hlt]
     ·cases hd
    rw [hwant,hy]
    split at he2
    ·rename_i hb
     subst hb
     exact .inl ⟨by simp,one_sound hG hW hcall he2 K Q hK⟩
    ·rename_i hb
     refine .inr ⟨by simpa using hb,hK _ _ ?_⟩
     obtain ⟨H,φ,hG⟩:=hG
     rcases leave_eff he2 with ⟨h4,rfl⟩ | ⟨d',h4,hd',rfl⟩
     ·rw [h4]
      exact ⟨H,φ,hG⟩
     ·rw [h4]
      exact ⟨H,φ,hG.value hd' (.inr (by rw [RepV];trivial))⟩
   ·simp [S.Rd.run] at he2
  ·simp [S.Rd.run] at he
end
end Go.Proofs.YtlldagdhlfpihaaGreatDoor
