/- Parts. -/
import Derived.Test.YtdeepoikgfaecaaGreatDoorZGRun
set_option linter.all false
open List renaming getElem?_eq_getElem->Yd,getElem?_eq_some_iff->Ye,getD_eq_getElem?_getD->Yk,length_cons->Yl,getElem?_append_left->Yn,mem_of_getElem?->Yr,length_map->Ys,mem_cons->Yu,cons_append->Yv,mem_cons_of_mem->Yw,mem_cons_self->Yy,range->Yz,getElem?_map->Y0,replicate->Y2,take_succ_cons->Y7,nil_append->Yad,take_zero->Yam,getElem_of_mem->Yaw,mem_map->Ya1,getElem?_cons_succ->Ya2,getElem?_set_ne->Ya9,mem_map_of_mem->Ycp,pairwise_map->Ydu
namespace Go.Proofs.YtdeepoikgfaecaaGreatDoor
section
open Go.RowKit
namespace S
structure GN where
 ty:Int
 ws:List (Int×Int)
structure Gr where
 ns:List GN
 at_:List Int
def plain (w:Int):Int:=if w%4=1\/w%4=3 then w-1 else w
def Gr.word (g:Gr)(x:Int×Int):Int:=if 0<x.2/\g.ns≠[] then 4*g.at_.getD ((x.2-1)%g.ns.length).toNat 0+1 else plain x.1
def idx (a:Int):List Int->Option Nat
 | []=>none
 | x::r=>if x=a then some 0 else (idx a r).map (·+1)
def Gr.node (g:Gr)(w:Int):Option Nat:=if w%4=1 then idx (w/4) g.at_ else none
def nOf:Option Nat->Int
 | none=>-1
 | some n=>n
def GN.size (x:GN):Int:=1+x.ws.length
def Gr.nd (g:Gr)(i:Nat):GN:=g.ns.getD i ⟨0,[]⟩
def Gr.total (g:Gr):List Nat->Int
 | []=>0
 | i::r=>(g.nd i).size+g.total r
def headW (ty:Int)(n:Int):Int:=32*n+4*(ty%8)+3
def Gr.adr (g:Gr)(i:Nat):Int:=g.at_.getD i 0
def addrsFrom:Int->List GN->List Int
 | _,[]=>[]
 | a,x::r=>a::addrsFrom (a+x.size) r
def sizes:List GN->Int
 | []=>0
 | x::r=>x.size+sizes r
structure Gr.Ok (g:Gr)(a:Int):Prop where
 at_:g.at_=addrsFrom a g.ns
 few:g.ns.length<=30
 short:∀ x∈g.ns,x.ws.length<=12
 wd:∀ x∈g.ns,0<=x.ty/\∀ y∈x.ws,0<=y.1/\y.1<4294967296/\0<=y.2
 a0:0<=a
 a1:a<=335544320
structure Reached (g:Gr)(roots:List Int)(n:Int)(l:List Nat):Prop where
 nd:l.Nodup
 rng:∀ i∈l,i<g.ns.length
 root:∀ r∈roots,∀ i,g.node r=some i->i∈l
 clo:∀ i∈l,∀ x∈(g.nd i).ws,∀ j,g.node (g.word x)=some j->j∈l
 why:∀ (j n:Nat),l[j]?=some n->(∃ r∈roots,g.node r=some n)\/∃ j' n',j'<j/\l[j']?=some n'/\∃ x∈(g.nd n').ws,g.node (g.word x)=some n
 sum:n=g.total l
def Good (g:Gr)(In:Nat->Prop)(nu:Nat->Int)(a b:Int):Prop:=(g.node a=none->a=b)/\∀ n,g.node a=some n->In n/\b=4*nu n+1
structure Shape (g:Gr)(was now:List Int)(mem:Int->Int)(fr r26:Int)(il:List Nat)(nu:Nat->Int):Prop where
 nd:il.Nodup
 rng:∀ n∈il,n<g.ns.length
 len:was.length=now.length
 good:∀ (i:Nat) (a b:Int),was[i]?=some a->now[i]?=some b->Good g (·∈il) nu a b
 at_:∀ n∈il,fr<=nu n/\nu n+(g.nd n).size<=r26/\mem (nu n)=headW (g.nd n).ty (g.nd n).ws.length
 words:∀ n∈il,∀ (k:Nat) (x:Int×Int),(g.nd n).ws[k]?=some x->Good g (·∈il) nu (g.word x) (mem (nu n+1+k))
 dis:∀ n∈il,∀ m∈il,n≠m->nu n+(g.nd n).size<=nu m\/nu m+(g.nd m).size<=nu n
structure Keeps (g:Gr)(was now:List Int)(mem:Int->Int)(fr half r26 r27:Int)(il:List Nat)(nu:Nat->Int):Prop where
 sh:Shape g was now mem fr r26 il nu
 size:∀ s l,Reached g was s l->r26=fr+s
 r27:r27=fr+half
 from0:0<=fr
 top:r26<=335544320
def Gr.ob (g:Gr)(mem:Int->Int)(nu:Nat->Int)(n:Nat):Ob:=⟨nu n,headW (g.nd n).ty (g.nd n).ws.length::(Yz (g.nd n).ws.length).map fun k=>mem (nu n+1+(k:Nat))⟩
def Gr.fit (g:Gr)(a:Int):Prop:=0<=a/\a<4294967296/\(a%4=1->∃ n,g.node a=some n)
end S
theorem Zke {a:Int}:∀ {l:List Int} {i:Nat},S.idx a l=some i->l[i]?=some a
 | [],i,h=>by cases h
 | x::r,i,h=>by
  rw [S.idx] at h
  split at h
  ·rename_i c
   cases h
   rw [c];rfl
  ·cases hq:S.idx a r with
   | none=>rw [hq] at h;cases h
   | some j =>
    rw [hq] at h
    cases h
    show r[j]?=some a
    exact Zke hq
theorem Zpk {a:Int}:∀ {l:List Int},S.idx a l=none->∀ i:Nat,l[i]?≠some a
 | [],_,i,h=>by cases h
 | x::r,h,i,hi=>by
  rw [S.idx] at h
  split at h
  ·cases h
  ·rename_i c
   cases i with
   | zero=>cases hi;exact c rfl
   | succ i =>
    cases hq:S.idx a r with
    | none=>exact Zpk hq i hi
    | some j=>rw [hq] at h;cases h
theorem Zah:∀ (l:List S.GN) (a:Int),(S.addrsFrom a l).length=l.length
 | [],_=>rfl
 | x::r,a=>by rw [S.addrsFrom,Yl,Yl,Zah r]
theorem Zbk:∀ l:List S.GN,0<=S.sizes l
 | []=>Int.le_refl _
 | x::r=>by have:=Zbk r;rw [S.sizes];unfold S.GN.size;omega
theorem Zgb (a b:List S.GN):S.sizes (a++b)=S.sizes a+S.sizes b:=by
 induction a with
 | nil=>rw [Yad,S.sizes];omega
 | cons x r ih=>rw [Yv,S.sizes,S.sizes,ih];omega
theorem Zc1:∀ (l:List S.GN) (i j:Nat),i<=j->S.sizes (l.take i)<=S.sizes (l.take j)
 | [],i,j,_=>by simp
 | x::r,0,j,_=>by rw [Yam,S.sizes];exact Zbk _
 | x::r,i+1,0,h=>by omega
 | x::r,i+1,j+1,h=>by
  have:=Zc1 r i j (by omega);rw [Y7,Y7,S.sizes,S.sizes];omega
theorem Zcj:∀ {l:List S.GN} {a:Int} {i:Nat},i<l.length->(S.addrsFrom a l)[i]?=some (a+S.sizes (l.take i))
 | [],_,i,h=>by simp at h
 | x::r,a,0,h=>by rw [S.addrsFrom,Yam,S.sizes,Int.add_zero];rfl
 | x::r,a,i+1,h=>by
  rw [S.addrsFrom,Ya2,Zcj (by simpa using h),Y7,S.sizes]
  congr 1
  omega
theorem Zdr:∀ (l m:List S.GN) (a:Int),S.addrsFrom a (l++m)=S.addrsFrom a l++S.addrsFrom (a+S.sizes l) m
 | [],m,a=>by rw [Yad,S.addrsFrom,S.sizes,Int.add_zero,Yad]
 | x::r,m,a=>by
  rw [Yv,S.addrsFrom,Zdr r m,S.addrsFrom,S.sizes,Yv,show a+x.size+S.sizes r=a+(x.size+S.sizes r) from by omega]
section
variable {g:S.Gr}{a:Int}(hg:g.Ok a)
include hg
theorem Zi9 {i:Nat}(hi:i<g.ns.length):g.adr i=a+S.sizes (g.ns.take i)/\g.at_[i]?=some (g.adr i):=by
 have h:=Zcj (a:=a) hi;rw [<- hg.at_] at h;unfold S.Gr.adr;rw [Yk,h];exact ⟨rfl,rfl⟩
theorem Zdm {i:Nat}(hi:i<g.ns.length):g.ns[i]?=some (g.nd i)/\g.nd i∈g.ns:=by
 have:g.nd i=g.ns[i]:=by unfold S.Gr.nd;simp [hi]
 rw [this];exact ⟨Yd hi,List.getElem_mem hi⟩
theorem Zoh {i:Nat}(hi:i<g.ns.length):S.sizes (g.ns.take (i+1))=S.sizes (g.ns.take i)+(g.nd i).size:=by
 rw [List.take_add_one,(Zdm hg hi).1,Zgb]
 show S.sizes _+(_+S.sizes [])=_
 rw [S.sizes];omega
theorem Zti {i j:Nat}(h:i<j)(hj:j<g.ns.length):g.adr i+(g.nd i).size<=g.adr j:=by
 have h1:=(Zi9 hg (i:=i) (by omega)).1;have h2:=(Zi9 hg hj).1;have h3:=Zc1 g.ns (i+1) j h;rw [Zoh hg (by omega)] at h3;omega
theorem Zd6 (i:Nat):1<=(g.nd i).size:=by unfold S.GN.size;omega
theorem Zxe {i j:Nat}(hi:i<g.ns.length)(hj:j<g.ns.length)(h:g.adr i=g.adr j):i=j:=by
 have hs1:=Zd6 hg i;have hs2:=Zd6 hg j;rcases Nat.lt_trichotomy i j with c | c | c
 ·have:=Zti hg c hj;omega
 ·exact c
 ·have:=Zti hg c hi;omega
theorem Zhr {i:Nat}(hi:i<g.ns.length):a<=g.adr i/\g.adr i+(g.nd i).size<=a+S.sizes g.ns:=by
 have h1:=(Zi9 hg hi).1;have h2:=Zoh hg hi;have h3:=Zc1 g.ns (i+1) g.ns.length hi;rw [List.take_length] at h3;have:=Zbk (g.ns.take i);omega
theorem Zgc {w:Int}{i:Nat}(h:g.node w=some i):i<g.ns.length/\w=4*g.adr i+1:=by
 unfold S.Gr.node at h
 split at h
 ·have h2:=Zke h
  have hlt:=(Ye.1 h2).1;rw [hg.at_,Zah] at hlt;rw [(Zi9 hg hlt).2] at h2;have h3:g.adr i=w/4:=by injection h2
  rename_i c
  exact ⟨hlt,by omega⟩
 ·cases h
theorem Ztj {i:Nat}(hi:i<g.ns.length):g.node (4*g.adr i+1)=some i:=by
 have e1:(4*g.adr i+1)%4=1:=by omega
 have e2:(4*g.adr i+1)/4=g.adr i:=by omega
 unfold S.Gr.node;rw [if_pos e1,e2]
 cases hq:S.idx (g.adr i) g.at_ with
 | none=>exact absurd (Zi9 hg hi).2 (Zpk hq i)
 | some j =>
  have h2:=Zke hq;have hlt:=(Ye.1 h2).1;rw [hg.at_,Zah] at hlt;rw [(Zi9 hg hlt).2] at h2;have h3:g.adr j=g.adr i:=by injection h2
  exact congrArg some (Zxe hg hlt hi h3)
theorem Ztk {x:Int×Int}(h:0<=x.1/\x.1<4294967296/\0<=x.2):(∃ i,i<g.ns.length/\g.word x=4*g.adr i+1)\/(g.word x%4≠1/\0<=g.word x/\g.word x<4294967296):=by
 unfold S.Gr.word
 split
 ·rename_i c
  have hl:0<g.ns.length:=List.length_pos_iff.2 c.2;refine .inl ⟨((x.2-1)%g.ns.length).toNat,?_,rfl⟩;have:=Int.emod_lt_of_pos (x.2-1) (show (0:Int)<g.ns.length from by omega);have:=Int.emod_nonneg (x.2-1) (show (g.ns.length:Int)≠0 from by omega);omega
 ·refine .inr ?_
  unfold S.plain
  split <;> omega
theorem Zbw {x:Int×Int}(h:0<=x.1/\x.1<4294967296/\0<=x.2)(hz:a+S.sizes g.ns<=335544320):0<=g.word x/\g.word x<4294967296:=by
 rcases Ztk hg h with ⟨i,hi,e⟩ | h
 ·have h0:=hg.a0
  have:=Zhr hg hi;have:=Zd6 hg i;omega
 ·exact h.2
theorem Zpl {x:Int×Int}(h:0<=x.1/\x.1<4294967296/\0<=x.2)(hz:a+S.sizes g.ns<=335544320):g.fit (g.word x):=by
 obtain ⟨h0,h1⟩:=Zbw hg h hz;refine ⟨h0,h1,fun h2=>?_⟩;rcases Ztk hg h with ⟨i,hi,e⟩ | q
 ·exact ⟨i,by rw [e];exact Ztj hg hi⟩
 ·exact absurd h2 q.1
omit hg in
theorem Zev (mem:Int->Int)(nu:Nat->Int)(i:Nat):((g.ob mem nu i).ws.length:Int)=(g.nd i).size:=by
 unfold S.Gr.ob S.GN.size;simp;omega
omit hg in
theorem Z11 {mem:Int->Int}{nu:Nat->Int}{i k:Nat}{x:Int×Int}(h:(g.nd i).ws[k]?=some x):(g.ob mem nu i).ws[k+1]?=some (mem (nu i+1+k)):=by
 have hk:=(Ye.1 h).1
 show (_::(Yz (g.nd i).ws.length).map _)[k+1]?=_
 rw [Ya2,Y0,List.getElem?_range hk];rfl
omit hg in
theorem Ztl {mem:Int->Int}{nu:Nat->Int}{i:Nat}{w:Int}(h:w∈(g.ob mem nu i).ws):w=S.headW (g.nd i).ty (g.nd i).ws.length\/∃ (k:Nat) (x:Int×Int),(g.nd i).ws[k]?=some x/\w=mem (nu i+1+k):=by
 unfold S.Gr.ob at h;rcases Yu.1 h with e | h
 ·exact .inl e
 ·obtain ⟨k,hk,rfl⟩:=Ya1.1 h
  have:=List.mem_range.1 hk;exact .inr ⟨k,_,Yd this,rfl⟩
end
theorem Zfh {g:S.Gr}{roots:List Int}{n:Int}{l:List Nat}(h:S.Reached g roots n l){In:Nat->Prop}(hr:∀ r∈roots,∀ i,g.node r=some i->In i)(hc:∀ i,In i->∀ x∈(g.nd i).ws,∀ j,g.node (g.word x)=some j->In j):∀ i∈l,In i:=by
 have key:∀ (k j n:Nat),j<k->l[j]?=some n->In n:=by
  intro k
  induction k with
  | zero=>intro j n h;omega
  | succ k ih =>
   intro j n hj hn;rcases h.why j n hn with ⟨r,hrm,e⟩ | ⟨j',n',hlt,hn',x,hx,e⟩
   ·exact hr r hrm n e
   ·exact hc n' (ih j' n' (by omega) hn') x hx n e
 intro i hi;obtain ⟨j,hj,e⟩:=Yaw hi;exact key (j+1) j i (by omega) (by rw [<- e];exact Yd hj)
section
variable {g:S.Gr}{a:Int}(hg:g.Ok a)
include hg
theorem Zme {roots:List Int}{n n':Int}{l l':List Nat}(h:S.Reached g roots n l)(h':S.Reached g roots n' l'):∀ i,i∈l↔i∈l':=fun i =>
 ⟨Zfh h (In:=(·∈l')) h'.root h'.clo i,Zfh h' (In:=(·∈l)) h.root h.clo i⟩
theorem Zwa {i j:Nat}(hi:i<g.ns.length)(hj:j<g.ns.length)(h:g.ob (fun _=>0) g.adr i=g.ob (fun _=>0) g.adr j):i=j:=Zxe hg hi hj (congrArg S.Ob.at_ h)
omit hg in
theorem Zkf (mem:Int->Int)(nu:Nat->Int)(l:List Nat):S.tot (l.map (g.ob mem nu))=g.total l:=by
 induction l with
 | nil=>rfl
 | cons i r ih=>rw [List.map_cons,S.tot,S.Gr.total,Zev,ih]
theorem Zgq {l m:List Nat}(hl:l.Nodup)(hrl:∀ i∈l,i<g.ns.length)(h:∀ i∈l,i∈m):g.total l<=g.total m:=by
 have:=Zbj (l.map (g.ob (fun _=>0) g.adr)) (m.map (g.ob (fun _=>0) g.adr)) (by
  rw [List.Nodup,Ydu];exact List.Pairwise.imp_of_mem (fun {i j} hi hj hne=>fun e=>hne (Zwa hg (hrl i hi) (hrl j hj) e)) hl) fun o ho=>by
  obtain ⟨i,hi,rfl⟩:=Ya1.1 ho;exact Ycp (h i hi)
 rw [Zkf,Zkf] at this;exact this
theorem Zoi {roots:List Int}{n n':Int}{l l':List Nat}(h:S.Reached g roots n l)(h':S.Reached g roots n' l'):n=n':=by
 have hs:=Zme hg h h';have e1:=Zgq hg h.nd h.rng fun i hi=>(hs i).1 hi
 have e2:=Zgq hg h'.nd h'.rng fun i hi=>(hs i).2 hi
 rw [h.sum,h'.sum];omega
end
section
variable {g:S.Gr}{a:Int}(hg:g.Ok a){was now:List Int}{fr r26:Int}{il:List Nat}{nu:Nat->Int}{mem:Int->Int}(hS:S.Shape g was now mem fr r26 il nu)
include hg hS
theorem Zxf {n m:Nat}(hn:n∈il)(hm:m∈il)(h:nu n=nu m):n=m:=by
 by_cases c:n=m
 ·exact c
 ·have:=Zd6 hg n
  have:=Zd6 hg m;rcases hS.dis n hn m hm c with q | q <;> omega
theorem Zgr {n m:Nat}(hn:n∈il)(hm:m∈il)(h:g.ob mem nu n=g.ob mem nu m):n=m:=Zxf hg hS hn hm (congrArg S.Ob.at_ h)
theorem Z0q (h0:0<=fr)(hz:r26<=335544320)(hz2:a+S.sizes g.ns<=335544320):(∀ o∈il.map (g.ob mem nu),S.ObOk o/\fr<=o.at_/\o.at_+o.ws.length<=r26)/\(∀ o∈il.map (g.ob mem nu),∀ o'∈il.map (g.ob mem nu),o≠o'->o.at_+o.ws.length<=o'.at_\/o'.at_+o'.ws.length<=o.at_)/\(il.map (g.ob mem nu)).Nodup:=by
 refine ⟨fun o ho=>?_,fun o ho o' ho' hne=>?_,?_⟩
 ·obtain ⟨n,hn,rfl⟩:=Ya1.1 ho
  obtain ⟨e1,e2,e3⟩:=hS.at_ n hn;have hm:=hg.wd _ (Zdm hg (hS.rng n hn)).2;have hl:=hg.short _ (Zdm hg (hS.rng n hn)).2;refine ⟨⟨fun w hw=>?_,⟨_,_,rfl,?_,?_⟩⟩,e1,by rw [Zev];exact e2⟩
  ·rcases Ztl hw with rfl | ⟨k,x,hk,rfl⟩
   ·unfold S.headW;omega
   ·obtain ⟨q1,q2⟩:=hS.words n hn k x hk
    have hf:=Zpl hg (hm.2 x (Yr hk)) hz2
    cases hq:g.node (g.word x) with
    | none=>rw [<- q1 hq];exact ⟨hf.1,hf.2.1⟩
    | some m =>
     obtain ⟨r1,r2⟩:=q2 m hq;obtain ⟨p1,p2,_⟩:=hS.at_ m r1;have:=Zd6 hg m;rw [r2];omega
  ·unfold S.headW;omega
  ·rw [Ys,List.length_range];unfold S.headW;omega
 ·obtain ⟨n,hn,rfl⟩:=Ya1.1 ho
  obtain ⟨m,hm,rfl⟩:=Ya1.1 ho';rw [Zev,Zev];exact hS.dis n hn m hm fun e=>hne (by rw [e])
 ·rw [List.Nodup,Ydu]
  exact List.Pairwise.imp_of_mem (fun {i j} hi hj hne=>fun e=>hne (Zgr hg hS hi hj e)) hS.nd
theorem Zxg {cf:S.Cf}(hO:cf.O=il.map (g.ob mem nu))(h0:0<=fr)(hz:r26<=335544320){T:S.Ob->Prop}{x b:Int}(hx:g.fit x)(hgd:S.Good g (·∈il) nu x b)(hT:∀ n,g.node x=some n->T (g.ob mem nu n)):S.WOk cf T b:=by
 cases hq:g.node x with
 | none =>
  rw [<- hgd.1 hq];refine ⟨hx.1,hx.2.1,fun h=>?_⟩;obtain ⟨n,hn⟩:=hx.2.2 h;rw [hn] at hq
  cases hq
 | some n =>
  obtain ⟨r1,r2⟩:=hgd.2 n hq;obtain ⟨p1,p2,_⟩:=hS.at_ n r1;have:=Zd6 hg n;rw [r2];exact ⟨by omega,by omega,fun _=>.inl ⟨g.ob mem nu n,by rw [hO];exact Ycp r1,hT n hq,rfl⟩⟩
end
theorem Zxh:∀ {ρ:List S.Ob} {t ν ν':Int} {o o':S.Ob},(∀ x∈ρ,∀ y∈ρ,x.at_=y.at_->x=y)->o∈ρ->o'∈ρ->o≠o'->S.nw t ρ o.at_=some ν->S.nw t ρ o'.at_=some ν'->ν+o.ws.length<=ν'\/ν'+o'.ws.length<=ν
 | [],_,_,_,_,_,_,h,_,_,_,_=>by cases h
 | x::r,t,ν,ν',o,o',hi,ho,ho',hne,h1,h2=>by
  rw [S.nw] at h1 h2;have hi':∀ y∈r,∀ z∈r,y.at_=z.at_->y=z:=fun y hy z hz=>hi y (Yw _ hy) z (Yw _ hz)
  split at h1
  ·rename_i c1
   have e1:=hi x Yy o ho c1;subst e1
   cases h1
   split at h2
   ·rename_i c2
    exact absurd (hi x Yy o' ho' c2) hne
   ·obtain ⟨_,_,_,q,_⟩:=Zdk h2
    exact .inl q
  ·rename_i c1
   have hor:o∈r:=(Yu.1 ho).resolve_left fun e=>c1 (by rw [e])
   split at h2
   ·rename_i c2
    have e2:=hi x Yy o' ho' c2;subst e2
    cases h2
    obtain ⟨_,_,_,q,_⟩:=Zdk h1;exact .inr q
   ·rename_i c2
    have hor':o'∈r:=(Yu.1 ho').resolve_left fun e=>c2 (by rw [e])
    exact Zxh hi' hor hor' hne h1 h2
section
variable {g:S.Gr}{a:Int}(hg:g.Ok a)
include hg
theorem Zwb {I:S.Img}{cf:S.Cf}(hc:S.Cf.Ok I cf){was now now' at_:List Int}{r26:Int}{il:List Nat}{nu:Nat->Int}{st st':S.Vw}(hS:S.Shape g was now st.mem cf.fr r26 il nu)(hO:cf.O=il.map (g.ob st.mem nu)){n0:Int}{l:List Nat}(hR:S.Reached g was n0 l)
 (hfit:∀ x∈was,g.fit x) (hz2:a+S.sizes g.ns<=335544320) {X:Int->Prop} {ρ:List S.Ob} (h:S.Cd cf (fun o=>∃ i∈l,g.ob st.mem nu i=o) X st ρ st') (hX:∀ x∈at_,X x) (hnow:now=at_.map st.mem) (hnow':now'=at_.map st'.mem) :
 ∃ nu',S.Keeps g was now' st'.mem cf.to_ cf.hf (st'.reg 26) (st'.reg 27) l nu'/\S.tot ρ=n0:=by
 obtain ⟨nu',hnu⟩:∃ nu':Nat->Int,nu'=fun n=>(S.nw cf.to_ ρ (nu n)).getD 0:=⟨_,rfl⟩
 have nuE:∀ n,g.ob st.mem nu n∈ρ->S.nw cf.to_ ρ (nu n)=some (nu' n):=fun n hn=>by
  obtain ⟨ν,hν⟩:=Zfw (t:=cf.to_) hn;have e:(g.ob st.mem nu n).at_=nu n:=rfl;rw [e] at hν;rw [hnu];simp only [hν];rfl
 have mem_wd:∀ n∈il,∀ x∈(g.nd n).ws,g.fit (g.word x):=fun n hn x hx=>Zpl hg ((hg.wd _ (Zdm hg (hS.rng n hn)).2).2 x hx) hz2
 have good1:∀ x b,g.fit x->S.Good g (·∈il) nu x b->S.Cl cf ρ b->S.Good g (fun n=>n∈il/\g.ob st.mem nu n∈ρ) nu' x (S.mv cf.to_ ρ b):=fun x b hf hgd hcl=>by
  constructor
  ·intro hn
   rw [<- hgd.1 hn];unfold S.mv;rw [if_neg fun hp=>by
    obtain ⟨n,e⟩:=hf.2.2 hp;rw [e] at hn
    cases hn]
  ·intro n hn
   obtain ⟨hi,e⟩:=hgd.2 n hn;have hm:=hcl (g.ob st.mem nu n) (by rw [hO];exact Ycp hi) e;refine ⟨⟨hi,hm⟩,?_⟩;have e1:(4*nu n+1)%4=1:=by omega
   have e2:(4*nu n+1)/4=nu n:=by omega
   unfold S.mv;rw [e,if_pos e1,e2,nuE n hm]
 have rootG:∀ (i:Nat) (x y:Int),was[i]?=some x->now'[i]?=some y->S.Good g (fun n=>n∈il/\g.ob st.mem nu n∈ρ) nu' x y:=fun i x y hx hy=>by
  rw [hnow',Y0] at hy
  cases hq:at_[i]? with
  | none=>rw [hq] at hy;cases hy
  | some p =>
   rw [hq] at hy
   cases hy
   obtain ⟨q1,q2⟩:=h.root p (hX p (Yr hq));rw [q1];exact good1 x _ (hfit x (Yr hx)) (hS.good i x _ hx (by rw [hnow,Y0,hq];rfl)) q2
 have wordG:∀ n,(n∈il/\g.ob st.mem nu n∈ρ)->∀ (k:Nat) (x:Int×Int),(g.nd n).ws[k]?=some x->S.Good g (fun n=>n∈il/\g.ob st.mem nu n∈ρ) nu' (g.word x) (st'.mem (nu' n+1+k)):=fun n hn k x hx=>by
  obtain ⟨q1,q2⟩:=h.new _ hn.2 (nu' n) (nuE n hn.2) (k+1) _ (Z11 hx);have e0:nu' n+((k+1:Nat):Int)=nu' n+1+k:=by omega
  rw [e0] at q1;rw [q1];exact good1 _ _ (mem_wd n hn.1 x (Yr hx)) (hS.words n hn.1 k x hx) q2
 have lenN:now'.length=now.length:=by rw [hnow,hnow',Ys,Ys]
 have In_of:∀ i∈l,i∈il/\g.ob st.mem nu i∈ρ:=Zfh hR (fun r hr i hi=>by
  obtain ⟨k,hk,e⟩:=Yaw hr;have hk2:k<now'.length:=by rw [lenN,<- hS.len];exact hk
  exact ((rootG k r _ (by rw [<- e];exact Yd hk) (Yd hk2)).2 i hi).1) (fun i hi x hx j hj=>by
  obtain ⟨k,hk,e⟩:=Yaw hx;exact ((wordG i hi k x (by rw [<- e];exact Yd hk)).2 j hj).1)
 have of_In:∀ n,(n∈il/\g.ob st.mem nu n∈ρ)->n∈l:=fun n hn=>by
  obtain ⟨i,hi,e⟩:=h.tin _ hn.2;rw [<- Zgr hg hS (In_of i hi).1 hn.1 e];exact hi
 have goodL:∀ x y,S.Good g (fun n=>n∈il/\g.ob st.mem nu n∈ρ) nu' x y->S.Good g (·∈l) nu' x y:=fun x y hq=>⟨hq.1,fun n hn=>⟨of_In n (hq.2 n hn).1,(hq.2 n hn).2⟩⟩
 have obsOk:∀ x∈ρ,∀ y∈ρ,x.at_=y.at_->x=y:=fun x hx y hy e=>Zqk hc (h.sub x hx) (h.sub y hy) e
 have tot_eq:S.tot ρ=n0:=by
  have e1:=Zbj ρ (l.map (g.ob st.mem nu)) h.nd fun o ho=>by
   obtain ⟨i,hi,rfl⟩:=h.tin o ho;exact Ycp hi
  have e2:=Zbj (l.map (g.ob st.mem nu)) ρ (by
   rw [List.Nodup,Ydu];exact List.Pairwise.imp_of_mem (fun {i j} hi hj hne=>fun e=>hne (Zgr hg hS (In_of i hi).1 (In_of j hj).1 e)) hR.nd) fun o ho=>by
   obtain ⟨i,hi,rfl⟩:=Ya1.1 ho;exact (In_of i hi).2
  rw [Zkf] at e1 e2;rw [hR.sum];omega
 have ht0:=hc.to0;have htz:=hc.toz;have hs:=hc.sum;have hle:=Zbj ρ cf.O h.nd h.sub;refine ⟨nu',⟨⟨hR.nd,hR.rng,by rw [lenN];exact hS.len,fun i x y hx hy=>goodL _ _ (rootG i x y hx hy),fun n hn=>?_,fun n hn k x hx=>goodL _ _ (wordG n (In_of n hn) k x hx),fun n hn m hm hne=>?_⟩,fun s l' hR'=>?_,h.r27,by omega,by rw [h.r26];omega⟩,tot_eq⟩
 ·obtain ⟨hi,hρ⟩:=In_of n hn
  obtain ⟨_,r1,r2⟩:=Zl6 hc h.sub (h.sub _ hρ) (nuE n hρ);rw [Zev] at r2;refine ⟨r1,by rw [h.r26];exact r2,?_⟩;obtain ⟨q1,_⟩:=h.new _ hρ (nu' n) (nuE n hρ) 0 _ rfl;have e0:nu' n+((0:Nat):Int)=nu' n:=by omega
  rw [e0] at q1;rw [q1];unfold S.mv;rw [if_neg (by unfold S.headW;omega)]
 ·obtain ⟨hi,hρ⟩:=In_of n hn
  obtain ⟨hi',hρ'⟩:=In_of m hm;have:=Zxh obsOk hρ hρ' (fun e=>hne (Zgr hg hS hi hi' e)) (nuE n hρ) (nuE m hρ');rw [Zev,Zev] at this;exact this
 ·rw [h.r26,tot_eq,Zoi hg hR hR']
end
end
section
open Go.RowKit
namespace S
def puts (m:Mach):List (Int×Int)->Mach
 | []=>m
 | p::r=>puts (m.putV p.1 p.2) r
structure Wd (gw sw F:List Int)(size:Int)(m:Mach):Prop where
 ok:m.Ok
 run:m.state=0
 len:(m.mem.length:Int)=size
 code:(S.aa true gw sw F size).In m.mem
 r28:m.rd 28=1056
 out:m.out=[]
 steps:m.steps=0
end S
theorem Zb4 (m:S.Mach)(a b:List (Int×Int)):S.puts m (a++b)=S.puts (S.puts m a) b:=by
 induction a generalizing m with
 | nil=>rfl
 | cons p r ih=>rw [Yv,S.puts,S.puts,ih]
theorem Zoj {m:S.Mach}{i v:Int}(h0:0<=i)(h1:i<m.mem.length):m.putV i v={ m with mem:=m.mem.set i.toNat v }:=by
 unfold S.Mach.putV;rw [if_pos ⟨h0,h1⟩]
theorem Zfi (m:S.Mach)(i v:Int):(m.putV i v).reg=m.reg/\(m.putV i v).place=m.place/\(m.putV i v).input=m.input/\(m.putV i v).out=m.out/\(m.putV i v).state=m.state/\(m.putV i v).steps=m.steps/\(m.putV i v).mem.length=m.mem.length:=by
 unfold S.Mach.putV
 split <;> simp
theorem Zhs {m:S.Mach}{i v a:Int}(h0:0<=i)(h1:i<m.mem.length)(ha:0<=a):(m.putV i v).mv a=if a=i then v else m.mv a:=by
 rw [Zoj h0 h1]
 show (m.mem.set i.toNat v).getD a.toNat 0=if a=i then v else m.mem.getD a.toNat 0
 by_cases c:a=i
 ·subst c
  rw [if_pos rfl];have:a.toNat<m.mem.length:=by omega
  simp [this]
 ·rw [if_neg c]
  have:¬ i.toNat=a.toNat:=by omega
  simp only [Yk,Ya9 this]
theorem Ztm (m:S.Mach)(i v j:Int):(m.putV i v).rd j=m.rd j:=by
 unfold S.Mach.rd;rw [(Zfi m i v).1]
theorem Zbn {m:S.Mach}{i v:Int}(h0:0<i)(h1:i<32):m.setV i v={ m with reg:=m.reg.set i.toNat v }:=by
 unfold S.Mach.setV S.Mach.put;rw [if_pos ⟨by omega,h1⟩,if_neg (by omega)]
theorem Zd7 {m:S.Mach}(h:m.Ok){i v j:Int}(h0:0<i)(h1:i<32):(m.setV i v).rd j=if j=i then v else m.rd j:=by
 rw [Zbn h0 h1];have hr:=h.regs
 show (m.reg.set i.toNat v).getD j.toNat 0=if j=i then v else m.reg.getD j.toNat 0
 by_cases c:j=i
 ·subst c
  rw [if_pos rfl];have:j.toNat<m.reg.length:=by omega
  simp [this]
 ·rw [if_neg c]
  have:¬ i.toNat=j.toNat:=by omega
  simp only [Yk,Ya9 this]
theorem Zkg {m:S.Mach}{i v a:Int}(h0:0<i)(h1:i<32):(m.setV i v).mv a=m.mv a:=by
 rw [Zbn h0 h1];rfl
theorem Zck {m:S.Mach}{i:Int}(h0:0<=i)(h1:i<32):m.regV i=m.rd i:=by
 unfold S.Mach.regV;rw [if_pos ⟨h0,h1⟩];rfl
theorem Zht {m:S.Mach}{i:Int}(h0:0<=i)(h1:i<m.mem.length):m.memV i=m.mv i:=by
 unfold S.Mach.memV;rw [if_pos ⟨h0,h1⟩];rfl
theorem Ztn {I:S.Img}(hI:I.Ok){mem:List Int}(h:I.In mem){p:Int}(hp:0<=p)(hc:¬ I.code p)(v:Int):I.In (mem.set p.toNat v):=fun k k0 k1 j w hv=>by
 have hold:=h k k0 k1 j w hv;have hlt:=(Ye.1 hv).1;have hlen:=Zao (base:=0) (Zaq hI) (Zdd (Zcw hI)) hI.words k;have hnx:I.adr (k+1)=I.adr k+S.sizeAt I.xs I.F k:=rfl;have l1:=Zci hI (i:=I.i0) (j:=k) k0;have l2:=Zci hI (i:=k+1) (j:=I.i1) k1;have l3:=Zln hI k;have hne:¬ p.toNat=(I.adr k).toNat+j:=by
  intro e;exact hc ⟨by omega,by omega⟩
 rw [<- hold];simp only [Yk,Ya9 hne]
theorem Zto {m:S.Mach}(h:m.Ok){i v:Int}(hv:0<=v/\v<=4294967295):(m.putV i v).Ok:=by
 unfold S.Mach.putV
 split
 ·rename_i c
  refine ⟨h.regs,h.word,h.zero,by simpa using h.mem,fun j=>?_,h.place0,h.place1,h.inp,h.outp,h.code0,h.code1⟩
  show 0<=(m.mem.set i.toNat v).getD j 0/\(m.mem.set i.toNat v).getD j 0<=4294967295
  by_cases e:i.toNat=j
  ·subst e
   have:i.toNat<m.mem.length:=by omega
   simp [this];exact hv
  ·have:=h.memw j
   simp only [Yk,Ya9 e] at this ⊢;exact this
 ·exact h
section
variable {gw sw F:List Int}{size:Int}(hI:(S.aa true gw sw F size).Ok)
include hI
theorem Ztp {m:S.Mach}(h:S.Wd gw sw F size m){i v:Int}(hi:0<=i/\i<size)(hc:¬ (S.aa true gw sw F size).code i)(hv:0<=v/\v<=4294967295):S.Wd gw sw F size (m.putV i v):=by
 obtain ⟨e1,e2,e3,e4,e5,e6,e7⟩:=Zfi m i v;refine ⟨Zto h.ok hv,e5.trans h.run,by rw [e7];exact h.len,?_,by rw [Ztm];exact h.r28,e4.trans h.out,e6.trans h.steps⟩;rw [Zoj hi.1 (by have:=h.len;omega)];exact Ztn hI h.code hi.1 hc v
theorem Zja {m:S.Mach}(h:S.Wd gw sw F size m){i v:Int}(hi:0<i/\i<32)(h28:i=28->v=1056)(hv:0<=v/\v<=4294967295):S.Wd gw sw F size (m.setV i v):=by
 have hk:(m.setV i v).Ok:=by
  unfold S.Mach.setV;rw [if_pos ⟨by omega,hi.2⟩];exact Zim h.ok (by omega) hv
 have hr:=Zd7 h.ok (v:=v) (j:=28) hi.1 hi.2;rw [Zbn hi.1 hi.2] at hk hr ⊢;refine ⟨hk,h.run,h.len,h.code,?_,h.out,h.steps⟩;rw [hr]
 split
 ·rename_i c;exact h28 c.symm
 ·exact h.r28
theorem Zok {m:S.Mach}(h:S.Wd gw sw F size m){name:ByteArray}(hp:0<=(S.aa true gw sw F size).lab name/\(S.aa true gw sw F size).lab name<=4294967295)(hs:0<=(S.aa true gw sw F size).lab S.kStub/\(S.aa true gw sw F size).lab S.kStub<=4294967295) :
 S.a8 gw sw F size ((m.setV 31 ((S.aa true gw sw F size).lab S.kStub)).goV ((S.aa true gw sw F size).lab name)) name:=by
 have hw:=Zja hI h (i:=31) (v:=(S.aa true gw sw F size).lab S.kStub) (by decide) (fun h=>absurd h (by decide)) hs;have e:(m.setV 31 ((S.aa true gw sw F size).lab S.kStub)).goV ((S.aa true gw sw F size).lab name)={ (m.setV 31 ((S.aa true gw sw F size).lab S.kStub)) with place:=(S.aa true gw sw F size).lab name }:=by
  unfold S.Mach.goV;rw [if_neg (by rw [hw.run];decide)]
 rw [e];refine ⟨placed hw.ok hp,hw.run,hw.len,hw.code,rfl,hw.r28,?_⟩
 show (m.setV 31 _).rd 31=_
 rw [Zd7 h.ok (by decide) (by decide),if_pos rfl]
theorem Zwc {j:Nat}{x:S.Item}(hx:(S.aa true gw sw F size).xs[j]?=some x)(hk:x.kind=2) :
 S.findP (S.placesTo (S.joined (S.wObjs gw sw)) F 0 (S.joined (S.wObjs gw sw)).length) x.label=some ((S.aa true gw sw F size).lab x.label):=by
 have key:∀ (L:List (ByteArray×Int)) (s:ByteArray) (v:Int),(∃ q:Nat,L[q]?=some (s,v))->(∀ (q:Nat) (u:Int),L[q]?=some (s,u)->u=v)->S.findP L s=some v:=by
  intro L
  induction L with
  | nil=>rintro s v ⟨q,hq⟩;cases hq
  | cons p r ih =>
   rintro s v ⟨q,hq⟩ hu;obtain ⟨n,u⟩:=p;rw [S.findP];simp only;by_cases c:n=s
   ·subst c
    rw [if_pos rfl,hu 0 u rfl]
   ·rw [if_neg c]
    refine ih s v ?_ fun q u h=>hu (q+1) u h
    cases q with
    | zero=>cases hq;exact absurd rfl c
    | succ q=>exact ⟨q,hq⟩
 have hs:=Zhc hI hx hk;have hlab:=Zcp hI hx hk;have hj:=(Ye.1 hx).1;refine key _ _ _ ?_ fun q u hq=>?_
 ·obtain ⟨q,hq⟩:=Zi1 (F:=F) (base:=0) hs _ hj
  exact ⟨q,by rw [hlab];exact hq⟩
 ·obtain ⟨j',h1,h2,_⟩:=Zha (Zr6 hI) _ q _ u hq
  have:j'=j:=by
   have h3:S.stands (S.aa true gw sw F size).xs x.label=j':=h1;omega
  subst this;rw [hlab];exact h2
end
theorem Zqn (n f a t:Int):S.wordsOf (S.bSp n) f a t=Y2 n.toNat 0:=by
 have hk:(S.bSp n).kind=8:=rfl;unfold S.wordsOf;rw [hk,if_neg (by decide),if_neg (fun h=>absurd h.1 (by decide)),if_neg (fun h=>absurd h.1 (by decide)),if_neg (by decide),if_neg (fun h=>absurd h.1 (by decide)),if_neg (by decide),if_neg (by decide),if_neg (by decide),if_neg (by decide),if_pos rfl];rfl
theorem Zmf (n f a t:Int):S.wordsOf (S.bW n) f a t=[n]:=by
 have hk:(S.bW n).kind=6:=rfl;unfold S.wordsOf;rw [hk,if_neg (by decide),if_neg (fun h=>absurd h.1 (by decide)),if_neg (fun h=>absurd h.1 (by decide)),if_neg (by decide),if_neg (fun h=>absurd h.1 (by decide)),if_neg (by decide),if_neg (by decide),if_pos rfl];rfl
def S.wL (gw sw F:List Int):List Int:=S.outTo (S.joined (S.wObjs gw sw)) F 0 (S.joined (S.wObjs gw sw)).length
def S.wM (L:List Int)(heap:Int)(inp:List Int):S.Mach :=
 ((((((((Zjp L (L.length+heap).toNat inp).putV 1 heap).putV 2 L.length).putV 3 (L.length+heap/2)).putV 4 (heap/2)).putV 5 38).setV 26 L.length).setV 27 (L.length+heap/2)).setV 28 1056
section
variable {gw sw F:List Int}{size:Int}(hI:(S.aa true gw sw F size).Ok)
include hI
theorem Ztq:((S.wL gw sw F).length:Int)=(S.aa true gw sw F size).lab S.kEnd:=by
 have:=Za0 (base:=0) (Zaq hI) (Zdd (Zcw hI)) hI.words (S.joined (S.wObjs gw sw)).length;have h2:=(Ze6 hI).2.2;unfold S.wL;have h3:S.addr (S.joined (S.wObjs gw sw)) F 0 (S.joined (S.wObjs gw sw)).length=(S.aa true gw sw F size).adr (S.aa true gw sw F size).xs.length:=rfl;have h4:((S.outTo (S.joined (S.wObjs gw sw)) F 0 (S.joined (S.wObjs gw sw)).length).length:Int)=S.addr (S.joined (S.wObjs gw sw)) F 0 (S.joined (S.wObjs gw sw)).length-0:=this;omega
theorem Zwd {i j:Nat}{v:Int}(hi:i<(S.aa true gw sw F size).xs.length)(hj:(S.wordsAt (S.aa true gw sw F size).xs F 0 i)[j]?=some v):(S.wL gw sw F)[((S.aa true gw sw F size).adr i).toNat+j]?=some v :=
 Zxi (Zaq hI) (Zdd (Zcw hI)) hI.words hj _ hi
theorem Z0r {a:Nat}(ha:a<1312):(S.wL gw sw F)[a]?=some 0:=by
 have hx:(S.aa true gw sw F size).xs[0]?=some (S.bSp 1312):=Zaz rfl;have hw:S.wordsAt (S.aa true gw sw F size).xs F 0 0=Y2 1312 0:=by
  unfold S.wordsAt;rw [hx];exact Zqn _ _ _ _
 have:=Zwd hI (i:=0) (j:=a) (v:=0) (Ye.1 hx).1 (by rw [hw,List.getElem?_replicate,if_pos ha]);rw [show ((S.aa true gw sw F size).adr 0).toNat+a=a from by show (0:Int).toNat+a=a;simp] at this;exact this
theorem Zyw {k:Nat}(hk:k<gw.length):(S.wL gw sw F)[1312+k]?=some gw[k]:=by
 have hx:(S.aa true gw sw F size).xs[1+k]?=some (S.bW gw[k]):=Zaz (Zw4 hk);have ha:=Zgl hI k (by omega);have hw:S.wordsAt (S.aa true gw sw F size).xs F 0 (1+k)=[gw[k]]:=by
  unfold S.wordsAt;rw [hx];exact Zmf _ _ _ _
 have:=Zwd hI (i:=1+k) (j:=0) (v:=gw[k]) (Ye.1 hx).1 (by rw [hw];rfl);rw [ha,show ((1312:Int)+k).toNat+0=1312+k from by omega] at this;exact this
theorem Zyx {k:Nat}(hk:k<sw.length):(S.wL gw sw F)[1312+gw.length+k]?=some sw[k]:=by
 have hx:(S.aa true gw sw F size).xs[2+gw.length+k]?=some (S.bW sw[k]):=Zaz (Zw5 hk);have ha:=Zgm hI k (by omega);have hw:S.wordsAt (S.aa true gw sw F size).xs F 0 (2+gw.length+k)=[sw[k]]:=by
  unfold S.wordsAt;rw [hx];exact Zmf _ _ _ _
 have:=Zwd hI (i:=2+gw.length+k) (j:=0) (v:=sw[k]) (Ye.1 hx).1 (by rw [hw];rfl);rw [ha,show ((1312:Int)+gw.length+k).toNat+0=1312+gw.length+k from by omega] at this;exact this
theorem Zgs {a:Int}:(S.aa true gw sw F size).code a↔1312+gw.length+sw.length<=a/\a<(S.aa true gw sw F size).lab S.kEnd-8:=by
 have h1:=Zv hI;have h2:=Ze6 hI;have e0:(S.aa true gw sw F size).adr (S.aa true gw sw F size).i0=1312+gw.length+sw.length:=by
  have:=Zgm hI sw.length (Nat.le_refl _);exact this
 unfold S.Img.code;rw [e0]
 constructor
 ·rintro ⟨q1,q2⟩;exact ⟨q1,by omega⟩
 ·rintro ⟨q1,q2⟩;exact ⟨q1,by omega⟩
theorem Zb5:1312+gw.length+sw.length+3+8<=(S.aa true gw sw F size).lab S.kEnd/\(S.aa true gw sw F size).lab S.kEnd<size:=by
 have h1:=Zv hI;have h2:=Ze6 hI;have hs:=hI.size;have h3:(S.aa true gw sw F size).size=size:=rfl;have hle:=Zci hI (i:=2+gw.length+sw.length+6) (j:=(S.aa true gw sw F size).i1) (by
  have h2:(S.aa true gw sw F size).i1=gw.length+sw.length+8+S.mid.length:=rfl;omega)
 exact ⟨by omega,by omega⟩
end
structure S.b7 (gw sw F:List Int)(heap:Int)(m:S.Mach):Prop where
 rd:∀ j,m.rd j=if j=28 then 1056 else if j=27 then (S.wL gw sw F).length+heap/2 else if j=26 then (S.wL gw sw F).length else 0
 m1:m.mv 1=heap
 m2:m.mv 2=(S.wL gw sw F).length
 m3:m.mv 3=(S.wL gw sw F).length+heap/2
 m4:m.mv 4=heap/2
 m5:m.mv 5=38
 low:∀ a,5<a->a<1312->m.mv a=0
 glob:∀ k:Nat,k<gw.length->m.mv (1312+k)=gw.getD k 0
 stat:∀ k:Nat,k<sw.length->m.mv (1312+gw.length+k)=sw.getD k 0
theorem Zwe {gw sw F:List Int}{heap:Int}{inp:List Int}(hI:(S.aa true gw sw F ((S.wL gw sw F).length+heap)).Ok)(hw:∀ x∈S.wL gw sw F,0<=x/\x<=4294967295)(hi:∀ x∈inp,0<=x/\x<=255)(hh:0<=heap) :
 S.Wd gw sw F ((S.wL gw sw F).length+heap) (S.wM (S.wL gw sw F) heap inp)/\S.b7 gw sw F heap (S.wM (S.wL gw sw F) heap inp):=by
 obtain ⟨L,hL⟩:=Yx (S.wL gw sw F);have hlen:=Ztq hI;have hend:=Zb5 hI;have hcode:=fun a=>Zgs hI (a:=a)
 have hs2:=hI.size2;have hs3:(S.aa true gw sw F ((S.wL gw sw F).length+heap)).size=(S.wL gw sw F).length+heap:=rfl;obtain ⟨E,hE⟩:=Yx ((S.aa true gw sw F ((S.wL gw sw F).length+heap)).lab S.kEnd);rw [<- hE] at hlen hend hcode;obtain ⟨m0,hm0⟩:=Yx (Zjp L (L.length+heap).toNat inp);have hml:m0.mem.length=(L.length+heap).toNat:=by
  rw [hm0]
  show (L++Y2 ((L.length+heap).toNat-L.length) 0).length=_
  rw [List.length_append,List.length_replicate];omega
 have hok0:m0.Ok:=by
  rw [hm0];exact Zuj (by rw [hL];omega) (by omega) (by rw [hL];exact hw) hi
 have hmv:∀ a:Nat,a<L.length->m0.mv a=L.getD a 0:=fun a ha=>by
  rw [hm0]
  show (L++Y2 ((L.length+heap).toNat-L.length) 0).getD (a:Int).toNat 0=_
  rw [Int.toNat_natCast,Yk,Yn ha,Yk]
 have hin:(S.aa true gw sw F ((S.wL gw sw F).length+heap)).In m0.mem:=by
  intro i h0 h1 j w hj;have hlt:i<(S.aa true gw sw F ((S.wL gw sw F).length+heap)).xs.length:=Nat.lt_of_lt_of_le h1 hI.i1l;have h:=Zwd hI hlt hj;rw [hm0,hL]
  show (S.wL gw sw F++Y2 _ 0).getD _ 0=w
  rw [Yk,Yn (Ye.1 h).1,h];rfl
 have hrd0:∀ j,m0.rd j=0:=fun j=>by
  rw [hm0];exact Zgw 32 j.toNat
 have hbd:(L.length:Int)+heap<=335544320:=by rw [hL];omega
 have hL1:(1312:Int)+11<=L.length:=by rw [hL];omega
 have ncode:∀ a:Int,a<1312->¬ (S.aa true gw sw F ((S.wL gw sw F).length+heap)).code a:=fun a ha hc=>by
  have:=(hcode a).1 hc;omega
 have put1:∀ (m:S.Mach) (i v:Int),(m.Ok/\(m.mem.length:Int)=L.length+heap/\(S.aa true gw sw F ((S.wL gw sw F).length+heap)).In m.mem/\m.state=0/\m.out=[]/\m.steps=0)->0<=i->i<1312->0<=v->v<=4294967295 ->
  ((m.putV i v).Ok/\((m.putV i v).mem.length:Int)=L.length+heap/\(S.aa true gw sw F ((S.wL gw sw F).length+heap)).In (m.putV i v).mem/\(m.putV i v).state=0/\(m.putV i v).out=[]/\(m.putV i v).steps=0)/\(∀ a,0<=a->(m.putV i v).mv a=if a=i then v else m.mv a)/\∀ j,(m.putV i v).rd j=m.rd j:=by
  rintro m i v ⟨k1,k2,k3,k4,k5,k6⟩ h0 h1 h2 h3;obtain ⟨e1,e2,e3,e4,e5,e6,e7⟩:=Zfi m i v;refine ⟨⟨Zto k1 ⟨h2,h3⟩,by rw [e7];exact k2,?_,e5.trans k4,e4.trans k5,e6.trans k6⟩,fun a ha=>Zhs h0 (by omega) ha,fun j=>Ztm m i v j⟩;rw [Zoj h0 (by omega)];exact Ztn hI k3 h0 (ncode i h1) v
 have set1:∀ (m:S.Mach) (i v:Int),(m.Ok/\(m.mem.length:Int)=L.length+heap/\(S.aa true gw sw F ((S.wL gw sw F).length+heap)).In m.mem/\m.state=0/\m.out=[]/\m.steps=0)->0<i->i<32->0<=v->v<=4294967295 ->
  ((m.setV i v).Ok/\((m.setV i v).mem.length:Int)=L.length+heap/\(S.aa true gw sw F ((S.wL gw sw F).length+heap)).In (m.setV i v).mem/\(m.setV i v).state=0/\(m.setV i v).out=[]/\(m.setV i v).steps=0)/\(∀ a,(m.setV i v).mv a=m.mv a)/\∀ j,(m.setV i v).rd j=if j=i then v else m.rd j:=by
  rintro m i v ⟨k1,k2,k3,k4,k5,k6⟩ h0 h1 h2 h3;have hk:(m.setV i v).Ok:=by
   unfold S.Mach.setV;rw [if_pos ⟨by omega,h1⟩];exact Zim k1 (by omega) ⟨h2,h3⟩
  refine ⟨⟨hk,?_,?_,?_,?_,?_⟩,fun a=>Zkg h0 h1,fun j=>Zd7 k1 h0 h1⟩
  all_goals rw [Zbn h0 h1]
  ·exact k2
  ·exact k3
  ·exact k4
  ·exact k5
  ·exact k6
 have s0:m0.Ok/\(m0.mem.length:Int)=L.length+heap/\(S.aa true gw sw F ((S.wL gw sw F).length+heap)).In m0.mem/\m0.state=0/\m0.out=[]/\m0.steps=0:=⟨hok0,by omega,hin,by rw [hm0];rfl,by rw [hm0];rfl,by rw [hm0];rfl⟩
 obtain ⟨s1,v1,r1⟩:=put1 m0 1 heap s0 (by decide) (by decide) hh (by omega);obtain ⟨s2,v2,r2⟩:=put1 _ 2 L.length s1 (by decide) (by decide) (by omega) (by omega);obtain ⟨s3,v3,r3⟩:=put1 _ 3 (L.length+heap/2) s2 (by decide) (by decide) (by omega) (by omega);obtain ⟨s4,v4,r4⟩:=put1 _ 4 (heap/2) s3 (by decide) (by decide) (by omega) (by omega);obtain ⟨s5,v5,r5⟩:=put1 _ 5 38 s4 (by decide) (by decide) (by omega) (by omega);obtain ⟨s6,v6,r6⟩:=set1 _ 26 L.length s5 (by decide) (by decide) (by omega) (by omega);obtain ⟨s7,v7,r7⟩:=set1 _ 27 (L.length+heap/2) s6 (by decide) (by decide) (by omega) (by omega);obtain ⟨s8,v8,r8⟩:=set1 _ 28 1056 s7 (by decide) (by decide) (by omega) (by omega);have hM:S.wM (S.wL gw sw F) heap inp=((((((((m0.putV 1 heap).putV 2 L.length).putV 3 (L.length+heap/2)).putV 4 (heap/2)).putV 5 38).setV 26 L.length).setV 27 (L.length+heap/2)).setV 28 1056):=by
  rw [hm0,hL];rfl
 rw [hM];obtain ⟨m,hm⟩:=Yx ((((((((m0.putV 1 heap).putV 2 L.length).putV 3 (L.length+heap/2)).putV 4 (heap/2)).putV 5 38).setV 26 L.length).setV 27 (L.length+heap/2)).setV 28 1056);rw [<- hm] at s8 v8 r8 ⊢;have hrd:∀ j,m.rd j=if j=28 then 1056 else if j=27 then L.length+heap/2 else if j=26 then (L.length:Int) else 0:=fun j=>by
  rw [r8,r7,r6,r5,r4,r3,r2,r1,hrd0]
 have hmv8:∀ a,0<=a->m.mv a=if a=5 then 38 else if a=4 then heap/2 else if a=3 then L.length+heap/2 else if a=2 then (L.length:Int) else if a=1 then heap else m0.mv a:=fun a ha=>by
  rw [v8,v7,v6,v5 a ha,v4 a ha,v3 a ha,v2 a ha,v1 a ha]
 have hat:∀ (a:Nat) (v:Int),5<a->L[a]?=some v->m.mv a=v:=fun a v ha hv=>by
  rw [hmv8 a (by omega),if_neg (by omega),if_neg (by omega),if_neg (by omega),if_neg (by omega),if_neg (by omega),hmv a (Ye.1 hv).1,Yk,hv];rfl
 refine ⟨⟨s8.1,s8.2.2.2.1,?_,s8.2.2.1,by rw [hrd];rfl,s8.2.2.2.2.1,s8.2.2.2.2.2⟩,⟨fun j=>by rw [hrd,hL],?_,?_,?_,?_,?_,fun a h1 h2=>?_,fun k hk=>?_,fun k hk=>?_⟩⟩
 ·rw [s8.2.1,hL]
 ·rw [hmv8 1 (by decide)];rfl
 ·rw [hmv8 2 (by decide),hL];rfl
 ·rw [hmv8 3 (by decide),hL];rfl
 ·rw [hmv8 4 (by decide)];rfl
 ·rw [hmv8 5 (by decide)];rfl
 ·obtain ⟨n,rfl⟩:=Int.eq_ofNat_of_zero_le (show 0<=a from by omega)
  exact hat n 0 (by omega) (by rw [hL];exact Z0r hI (by omega))
 ·have:=hat (1312+k) gw[k] (by omega) (by rw [hL];exact Zyw hI hk)
  rw [Yk,Yd hk];rw [show ((1312+k:Nat):Int)=1312+(k:Int) from by omega] at this;exact this
 ·have:=hat (1312+gw.length+k) sw[k] (by omega) (by rw [hL];exact Zyx hI hk)
  rw [Yk,Yd hk];rw [show ((1312+gw.length+k:Nat):Int)=1312+(gw.length:Int)+k from by omega] at this;exact this
end
end Go.Proofs.YtdeepoikgfaecaaGreatDoor
