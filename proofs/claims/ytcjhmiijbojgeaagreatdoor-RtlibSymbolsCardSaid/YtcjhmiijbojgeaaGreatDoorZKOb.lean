/- Parts. -/
import Derived.Test.YtcjhmiijbojgeaaGreatDoorZKGra
import Derived.Test.YtcjhmiijbojgeaaGreatDoorZKCc
set_option linter.all false
open List renaming length_append->Yd,getElem?_append_left->Yn,getElem?_append_right->Yo
namespace Go.Proofs.YtcjhmiijbojgeaaGreatDoor
open S
set_option maxRecDepth 100000
open Go Go.RowKit Go.Proofs
structure OCg (w:World)(g:Option Nat)(os:List S.Obj)(oc:List Value):Prop where
 len:oc.length=os.length*2
 one:∀u∈oc,u.oneCell'=true
 at_:∀(i:Nat)(x:S.Obj),os[i]?=some x->∃A c,oc[i*2]?=some (.string x.name)/\oc[i*2+1]?=some (.slice A x.items.length c) /\
  (0<x.items.length->∃b off,A=some ⟨b,off,none⟩/\b<w.heap.size/\some b≠g/\∀j y,x.items[j]?=some y->ItemAt w b (off+j*8) y)/\x.name.size<=maxLen/\∀y∈x.items,y.label.size<=maxLen
theorem OCg.oc {w:World}{g:Option Nat}{os:List S.Obj}{oc:List Value}(h:OCg w g os oc):OC w w.heap.size os oc:=⟨h.len,h.one,λ i x f=>by
 obtain⟨A,c,h0,m,d,j⟩:=h.at_ i x f;exact⟨A,c,h0,m,λ hp=>by
  obtain⟨b,off,e,l,_,a⟩:=d hp;exact⟨b,off,e,l,a⟩,j⟩⟩
theorem OCg.below {w w':World}{g:Option Nat}{os:List S.Obj}{oc:List Value}(h:OCg w g os oc)(d:Below w.heap.size w w'):OCg w' g os oc:=⟨h.len,h.one,λ i x m=>by
 obtain⟨A,c,h0,o,l,n⟩:=h.at_ i x m;exact⟨A,c,h0,o,λ hp=>by
  obtain⟨b,off,e,a,hg,f⟩:=l hp;have:=d.size;exact⟨b,off,e,by omega,hg,λ j y p=>(f j y p).block (d.block b a)⟩,n⟩⟩
theorem OCg.grow {w w':World}{g f:Option Nat}{os:List S.Obj}{oc:List Value}(h:OCg w g os oc)(hg:w.grownBy w' g)(r:f=g\/∃k,f=some k/\w.heap.size<=k):OCg w' f os oc:=⟨h.len,h.one,λ i x n=>by
 obtain⟨A,c,h0,p,m,o⟩:=h.at_ i x n;exact⟨A,c,h0,p,λ hp=>by
  obtain⟨b,off,e,d,a,l⟩:=m hp;have:=hg.size;refine⟨b,off,e,by omega,?_,λ j y q=>(l j y q).block (hg.block b d a)⟩;rcases r with rfl|⟨k,rfl,hk⟩
  .exact a
  .intro e
   have e':b=k:=Option.some.inj e;omega,o⟩⟩
theorem OCg.app {w:World}{g:Option Nat}{a b:List S.Obj}{n o:List Value}(h:OCg w g a n)(k:OCg w g b o):OCg w g (a++b) (n++o):=by
 refine⟨by rw[Yd,Yd,h.len,k.len];omega,λ u p=>(List.mem_append.1 p).elim (h.one u) (k.one u),λ i x d=>?_⟩;by_cases c:i<a.length
 .rw[Yn c] at d
  obtain⟨m,l,h0,j,e⟩:=h.at_ i x d;have f:=h.len;exact⟨m,l,by rw[Yn (by omega)];exact h0,by rw[Yn (by omega)];exact j,e⟩
 .rw[Yo (by omega)] at d
  obtain⟨m,l,h0,j,e⟩:=k.at_ (i-a.length) x d;have f:=h.len;exact⟨m,l,by rw[Yo (by omega),f,show i*2-a.length*2=(i-a.length)*2 from by omega];exact h0,by rw[Yo (by omega),f,show i*2+1-a.length*2=(i-a.length)*2+1 from by omega];exact j,e⟩
theorem OC.g {w:World}{B:Nat}{g:Option Nat}{os:List S.Obj}{oc:List Value}(h:OC w B os oc)(hB:B<=w.heap.size)(hg:∀k,g=some k->B<=k):OCg w g os oc:=⟨h.len,h.one,λ i x f=>by
 obtain⟨A,c,h0,l,d,j⟩:=h.at_ i x f;exact⟨A,c,h0,l,λ hp=>by
  obtain⟨b,off,e,hb,a⟩:=d hp;exact⟨b,off,e,by omega,λ e=>by have:=hg b e.symm;omega,a⟩,j⟩⟩
section
variable {H:Zn}{w:World}{g:Option Nat}(hH:∀b k,H b=some k->b<w.heap.size/\some b≠g)
include hH
theorem Zj9:∀{os:List S.Obj} {xs:List Value},RepL H w (ac os) xs->(∀x∈os,(∀y∈x.items,0<=y.word/\y.word<=4294967295)/\x.name.size<=maxLen/\∀y∈x.items,y.label.size<=maxLen)->OCg w g os xs
 | [],xs,h,_=>by
  have a:RepL H w [] xs:=h;rw[RepL] at a;subst a;exact { len:=rfl,one:=λ u D=>(List.not_mem_nil D).elim,at_:=λ i x l=>by simp at l }
 | o::r,xs,h,hw=>by
  have a:RepL H w (.str o.name::.row o.items.length (encItems o.items)::ac r) xs:=h;rw[RepL] at a;obtain⟨v0,rs,rfl,_,f,a⟩:=a;rw[RepL] at a;obtain⟨v,rs,rfl,_,d,a⟩:=a;rw[RepV] at f;subst f;obtain⟨q,t,B⟩:=hw o List.mem_cons_self;have ih:=Zj9 a λ x l=>hw x (List.mem_cons_of_mem _ l)
  have m:∃A c,v=.slice A o.items.length c/\(0<o.items.length->∃b off,A=some ⟨b,off,none⟩/\b<w.heap.size/\some b≠g/\∀j y,o.items[j]?=some y->ItemAt w b (off+j*8) y):=by
   rw[RepV] at d;obtain⟨A,c,rfl,_,_,s⟩:=d;refine⟨A,c,rfl,λ hp=>?_⟩;rcases s with e|⟨b,off,k,rfl,n,_,C⟩
   .have h8:=Zi5 o.items
    rw[e] at h8;simp at h8;omega
   .exact⟨b,off,rfl,(hH b k n).1,(hH b k n).2,Zf7 C q⟩
  obtain⟨A,c,rfl,hi⟩:=m;have z:OCg w g [o] [.string o.name,.slice A o.items.length c]:=⟨rfl,by simp[Value.oneCell'],λ i y p=>by
   cases i with
   | zero=>cases p;exact⟨A,c,rfl,rfl,hi,t,B⟩
   | succ i=>cases p⟩
  exact z.app ih
end
