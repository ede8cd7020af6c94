/- Parts. -/
import Derived.Test.YtldbnjajjfgipaaGreatDoorZVWld
import Derived.Test.YtldbnjajjfgipaaGreatDoorZKCc
set_option linter.all false
namespace Go.Proofs.YtldbnjajjfgipaaGreatDoor
open S Go.RowKit
theorem Zan (m:Mach)(d v:Int):(m.put d v).state=m.state:=by
 unfold Mach.put
 split <;> rfl
theorem Zpe (m:Mach)(i:Inst):(m.act i).1.state=m.state\/m.act i=({ m with state:=1,code:=m.rd i.a },m.place,0):=by
 unfold Mach.act
 extract_lets a b imm next at_
 split
 .split
  .exact .inl rfl
  .exact .inl (Zan _ _ _)
 split
 .exact .inl (Zan _ _ _)
 split
 .exact .inl (Zan _ _ _)
 split
 .split
  .exact .inl (Zan _ _ _)
  .exact .inl rfl
 split
 .split
  .exact .inl rfl
  .exact .inl rfl
 split
 .exact .inl rfl
 split
 .exact .inl (Zan _ _ _)
 split
 .exact .inl (Zan _ _ _)
 split
 .split
  .exact .inl (Zan _ _ _)
  .exact .inl (Zan _ _ _)
 split
 .exact .inl rfl
 .exact .inr rfl
theorem Zm2 {m:Mach}(h0:m.state=0)(c:m.step.state=1):m.step.place=m.place/\m.step.mem=m.mem/\m.step.reg=m.reg/\m.step.code=m.rd (dec (m.mem.getD m.place.toNat 0)).a:=by
 have e:m.step=m.step:=rfl;unfold Mach.step at c⊢;rw[if_neg (by omega)] at c⊢
 split at c
 .exact absurd c (by show ¬(2:Int)=1;decide)
 rename_i c1
 rw[if_neg c1]
 split at c
 .exact absurd c (by show ¬(2:Int)=1;decide)
 rename_i c2
 rw[if_neg c2]
 split at c
 .exact absurd c (by show ¬(2:Int)=1;decide)
 rename_i c3
 rw[if_neg c3];rcases Zpe m (dec (m.mem.getD m.place.toNat 0)) with h|h
 .have:(m.act (dec (m.mem.getD m.place.toNat 0))).1.state=1:=c
  omega
 .rw[h]
  exact⟨rfl,rfl,rfl,rfl⟩
theorem Zla {m:Mach}(h0:m.state=0):∀j:Nat,(m.steps_ j).state=1->∃k,(m.steps_ k).state=0/\(m.steps_ k).step=m.steps_ j
 | 0,h=>by
  have:m.state=1:=h;omega
 | j+1,h=>by
  by_cases c:(m.steps_ j).state=0
  .exact⟨j,c,rfl⟩
  .have e:m.steps_ (j+1)=m.steps_ j:=by
    show(m.steps_ j).step=m.steps_ j
    unfold Mach.step;rw[if_pos c]
   rw[e] at h⊢;exact Zla h0 j h
theorem Zvj {I:Img}(q:I.Ok){m:Mach}(h0:m.state=0){j:Nat}{V:Vw}{c:Int}(h:Off I (m.steps_ j) V c){i:Nat}{s:ByteArray}{w:Int}(a:I.i0<=i)(f:i<I.i1)(r:I.xs[i]?=some ⟨1,⟨36,0,0,0,0⟩,s,w⟩)(hp:(m.steps_ j).place=I.adr i):c=0:=by
 obtain⟨k,u,p⟩:=Zla h0 j h.end_;obtain⟨n,o,l,g⟩:=Zm2 u (by rw[p];exact h.end_);rw[p] at n o l g;obtain⟨v,hg,hn⟩:=Zx q a f r;have d:=h.code i a f 0 (wordOf ⟨36,0,0,0,0⟩) (by rw[v];rfl);rw[Nat.add_zero] at d;rw[<- n,<- o,hp,d] at g;have t:dec (wordOf ⟨36,0,0,0,0⟩)=⟨36,0,0,0,0⟩:=by
  have e:wordOf ⟨36,0,0,0,0⟩=enc ⟨36,0,0,0,0⟩:=by unfold wordOf;rw[if_pos hg]
  rw[e];exact(Zqt hg).1
 rw[t] at g;have z:=h.ok.zero;rw[<- h.codeIs,g]
 show(m.steps_ k).reg.getD 0 0=0
 rw[<- l];exact z
section
theorem Zg4 {s:ByteArray}:∀{xs:List S.Item},s∈tells xs->∃(j:Nat)(x:S.Item),xs[j]?=some x/\x.kind=2/\x.label=s
 | [],h=>by cases h
 | y::r,h=>by
  rw[tells] at h
  split at h
  .rename_i c
   rcases List.mem_cons.1 h with e|h
   .exact⟨0,y,rfl,c,e.symm⟩
   .obtain⟨j,x,h1,h2⟩:=Zg4 h
    exact⟨j+1,x,h1,h2⟩
  .obtain⟨j,x,h1,h2⟩:=Zg4 h
   exact⟨j+1,x,h1,h2⟩
section
variable {gw sw F:List Int}{size:Int}
structure S.Hv (size H half fr to_:Int):Prop where
 size:H+2*half<=size
 h0:0<=half
 ft:(fr=H/\to_=H+half)\/(fr=H+half/\to_=H)
end
end
section
attribute [local irreducible] midV
theorem Zvk (gw sw:List Int):tells (joined (wObjsV gw sw))=wTellsV:=by
 rw[Za5,Zaq,Zaq,(Zfq gw sw).1,<- List.append_assoc];rfl
theorem Zd2 {s:ByteArray}(h:(wTellsV.any λ t=>decide (t=s))=true):s∈wTellsV:=by
 obtain⟨t,a,c⟩:=List.any_eq_true.1 h;rw[<- of_decide_eq_true c];exact a
section
variable {gw sw F:List Int}{size:Int}
theorem Zf6 (a:(aa true gw sw F size).Ok){s:ByteArray}(h:s∈wTellsV) :
 findP (placesTo (joined (wObjsV gw sw)) F 0 (joined (wObjsV gw sw)).length) s=some ((aa true gw sw F size).lab s)/\0<=(aa true gw sw F size).lab s/\(aa true gw sw F size).lab s<=67108864:=by
 obtain⟨j,x,c,e,f⟩:=Zg4 (Zvk gw sw ▸ h);subst f;have d:=Zbu a (i:=j) c e;have g:=(List.getElem?_eq_some_iff.1 c).1;refine⟨Zuh a c e,?_,?_⟩
 .rw[d];exact Zlg a j
 .rw[d];exact Zg6 a (Nat.le_of_lt g)
theorem Zru:kStub∈wTellsV:=Zd2 (by kernel_rfl)
theorem Zlb (b:Bool):∃i,Seg (aa b gw sw F size) kReserve i (bItems rReserve):=Zug (j:=6) (r:=rReserve) rfl
theorem Zrv (b:Bool):∃i,Seg (aa b gw sw F size) kCons i (bItems rCons):=Zug (j:=7) (r:=rCons) rfl
end
end
section
section
variable {H:Zl}{w:World}(hH:∀b k,H b=some k->b<w.heap.size)
include hH
theorem Zlc:∀{os:List S.Obj} {xs:List Value},RepL H w (ag os) xs->(∀x∈os,(∀y∈x.items,0<=y.word/\y.word<=4294967295)/\x.name.size<=maxLen/\∀y∈x.items,y.label.size<=maxLen)->OC w w.heap.size os xs
 | [],xs,h,_=>by
  have a:RepL H w [] xs:=h;rw[RepL] at a;subst a;exact { len:=rfl,one:=λ u l=>(List.not_mem_nil l).elim,at_:=λ i x e=>by simp at e }
 | o::r,xs,h,hw=>by
  have a:RepL H w (.str o.name::.row o.items.length (encItems o.items)::ag r) xs:=h;rw[RepL] at a;obtain⟨v0,rs,rfl,_,d,a⟩:=a;rw[RepL] at a;obtain⟨v1,rs,rfl,_,f,a⟩:=a;rw[RepV] at d;subst d;obtain⟨j,m,g⟩:=hw o List.mem_cons_self;obtain⟨A,c,rfl,hi⟩:=Ziw hH f j;have ih:=Zlc a λ x e=>hw x (List.mem_cons_of_mem _ e)
  exact(OC.one_ (x:=o) (c:=c) hi m g).app ih
end
theorem KAt.lo {w:World}{lo a b p:Nat}{F:Nat->Prop}{H half:Int}{P:List (ByteArray×Int)}{m:Mach}(h:KAt w lo b p F H half P m)(d:a<=lo):KAt w a b p F H half P m:=by
 obtain⟨i,j,A,c,inp,rd,f,k2,g⟩:=h.mach;exact⟨h.blk,⟨i,j,A,c,inp,rd,f.base d,k2,g⟩,Nat.le_trans d h.lowb,h.nb,λ k e=>⟨Nat.le_trans d (h.lt k e).1,(h.lt k e).2⟩,h.few⟩
theorem ItemAt.block {w w':World}{b o:Nat}{x:S.Item}(h:ItemAt w b o x)(c:w'.heap[b]?=w.heap[b]?):ItemAt w' b o x:=h.keep λ o=>World.cell?_of_block (a:=⟨b,o,none⟩) c
section
variable {gw sw:List Int}(hg:∀x∈gw,0<=x/\x<=4294967295)(hs:∀x∈sw,0<=x/\x<=4294967295)(hgl:gw.length<=100)(hsl:sw.length<=100)
include hg hs hgl hsl
end
end
