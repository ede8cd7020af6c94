/- Parts. -/
import Derived.Test.YtldbnjajjfgipaaGreatDoorZKWrl
set_option linter.all false
open List renaming length_append->Yc,getElem?_append_left->Ym,getElem?_append_right->Yn
namespace Go.Proofs.YtldbnjajjfgipaaGreatDoor
open S
set_option maxRecDepth 100000
open Go Go.RowKit Go.Proofs
structure OCg (w:World)(g:Option Nat)(os:List S.Obj)(oc:List Value):Prop where
 len:oc.length=os.length*2
 one:∀u∈oc,u.oneCell'=true
 at_:∀(i:Nat)(x:S.Obj),os[i]?=some x->∃A c,oc[i*2]?=some (.string x.name)/\oc[i*2+1]?=some (.slice A x.items.length c) /\
  (0<x.items.length->∃b off,A=some ⟨b,off,none⟩/\b<w.heap.size/\some b≠g/\∀j y,x.items[j]?=some y->ItemAt w b (off+j*8) y)/\x.name.size<=maxLen/\∀y∈x.items,y.label.size<=maxLen
theorem OCg.oc {w:World}{g:Option Nat}{os:List S.Obj}{oc:List Value}(h:OCg w g os oc):OC w w.heap.size os oc:=⟨h.len,h.one,λ i x a=>by
 obtain⟨A,c,h0,f,j,m⟩:=h.at_ i x a;exact⟨A,c,h0,f,λ hp=>by
  obtain⟨b,off,e,d,_,l⟩:=j hp;exact⟨b,off,e,d,l⟩,m⟩⟩
theorem OCg.below {w w':World}{g:Option Nat}{os:List S.Obj}{oc:List Value}(h:OCg w g os oc)(d:Below w.heap.size w w'):OCg w' g os oc:=⟨h.len,h.one,λ i x f=>by
 obtain⟨A,c,h0,m,n,p⟩:=h.at_ i x f;exact⟨A,c,h0,m,λ hp=>by
  obtain⟨b,off,e,a,hg,o⟩:=n hp;have:=d.size;exact⟨b,off,e,by omega,hg,λ j y l=>(o j y l).block (d.block b a)⟩,p⟩⟩
theorem OCg.grow {w w':World}{g f:Option Nat}{os:List S.Obj}{oc:List Value}(h:OCg w g os oc)(hg:w.grownBy w' g)(n:f=g\/∃k,f=some k/\w.heap.size<=k):OCg w' f os oc:=⟨h.len,h.one,λ i x l=>by
 obtain⟨A,c,h0,o,p,r⟩:=h.at_ i x l;exact⟨A,c,h0,o,λ hp=>by
  obtain⟨b,off,e,d,a,q⟩:=p hp;have:=hg.size;refine⟨b,off,e,by omega,?_,λ j y m=>(q j y m).block (hg.block b d a)⟩;rcases n with rfl|⟨k,rfl,hk⟩
  .exact a
  .intro e
   have e':b=k:=Option.some.inj e;omega,r⟩⟩
theorem OCg.app {w:World}{g:Option Nat}{a b:List S.Obj}{o n:List Value}(h:OCg w g a o)(k:OCg w g b n):OCg w g (a++b) (o++n):=by
 refine⟨by rw[Yc,Yc,h.len,k.len];omega,λ u p=>(List.mem_append.1 p).elim (h.one u) (k.one u),λ i x d=>?_⟩;by_cases c:i<a.length
 .rw[Ym c] at d
  obtain⟨l,e,h0,j,m⟩:=h.at_ i x d;have f:=h.len;exact⟨l,e,by rw[Ym (by omega)];exact h0,by rw[Ym (by omega)];exact j,m⟩
 .rw[Yn (by omega)] at d
  obtain⟨l,e,h0,j,m⟩:=k.at_ (i-a.length) x d;have f:=h.len;exact⟨l,e,by rw[Yn (by omega),f,show i*2-a.length*2=(i-a.length)*2 from by omega];exact h0,by rw[Yn (by omega),f,show i*2+1-a.length*2=(i-a.length)*2+1 from by omega];exact j,m⟩
theorem OC.g {w:World}{B:Nat}{g:Option Nat}{os:List S.Obj}{oc:List Value}(h:OC w B os oc)(hB:B<=w.heap.size)(hg:∀k,g=some k->B<=k):OCg w g os oc:=⟨h.len,h.one,λ i x a=>by
 obtain⟨A,c,h0,d,f,l⟩:=h.at_ i x a;exact⟨A,c,h0,d,λ hp=>by
  obtain⟨b,off,e,hb,j⟩:=f hp;exact⟨b,off,e,by omega,λ e=>by have:=hg b e.symm;omega,j⟩,l⟩⟩
section
variable {H:Zl}{w:World}{g:Option Nat}(hH:∀b k,H b=some k->b<w.heap.size/\some b≠g)
include hH
theorem Zi0:∀{os:List S.Obj} {xs:List Value},RepL H w (ag os) xs->(∀x∈os,(∀y∈x.items,0<=y.word/\y.word<=4294967295)/\x.name.size<=maxLen/\∀y∈x.items,y.label.size<=maxLen)->OCg w g os xs
 | [],xs,h,_=>by
  have a:RepL H w [] xs:=h;rw[RepL] at a;subst a;exact { len:=rfl,one:=λ u D=>(List.not_mem_nil D).elim,at_:=λ i x l=>by simp at l }
 | o::r,xs,h,hw=>by
  have a:RepL H w (.str o.name::.row o.items.length (encItems o.items)::ag r) xs:=h;rw[RepL] at a;obtain⟨v0,rs,rfl,_,d,a⟩:=a;rw[RepL] at a;obtain⟨t,rs,rfl,_,f,a⟩:=a;rw[RepV] at d;subst d;obtain⟨B,s,z⟩:=hw o List.mem_cons_self;have ih:=Zi0 a λ x l=>hw x (List.mem_cons_of_mem _ l)
  have m:∃A c,t=.slice A o.items.length c/\(0<o.items.length->∃b off,A=some ⟨b,off,none⟩/\b<w.heap.size/\some b≠g/\∀j y,o.items[j]?=some y->ItemAt w b (off+j*8) y):=by
   rw[RepV] at f;obtain⟨A,c,rfl,_,_,C⟩:=f;refine⟨A,c,rfl,λ hp=>?_⟩;rcases C with e|⟨b,off,k,rfl,n,_,v⟩
   .have h8:=Zh5 o.items
    rw[e] at h8;simp at h8;omega
   .exact⟨b,off,rfl,(hH b k n).1,(hH b k n).2,Zfb v B⟩
  obtain⟨A,c,rfl,hi⟩:=m;have q:OCg w g [o] [.string o.name,.slice A o.items.length c]:=⟨rfl,by simp[Value.oneCell'],λ i y p=>by
   cases i with
   | zero=>cases p;exact⟨A,c,rfl,rfl,hi,s,z⟩
   | succ i=>cases p⟩
  exact q.app ih
end
