/- Parts. -/
import Derived.Test.YtfhiobkkdcdmiaaGreatDoorZGWld
import Derived.JoinedOf
import Derived.JoinedCond
import Derived.KernelRfl
set_option linter.all false
set_option maxHeartbeats 40000000
namespace Go.Proofs.YtfhiobkkdcdmiaaGreatDoor
section
set_option maxRecDepth 100000
theorem Zgo:joinedFacts Tryz.pinned.checked.prog 5 Tryz.f5 (OpenSpec.ofChange Rows.rtnumLabelsSpec).bare Rows.rtnumLabelsRow=true:=by
 unfold joinedFacts;simp only [Bool.and_eq_true]
 (repeat' apply And.intro)
 all_goals (as_aux_lemma=>kernel_rfl)
end
section
open Go.RowKit
namespace S
def labI (x:Item):Bool:=decide (x.kind=2) && !x.label.data.toList.isEmpty && !(x.label.data.toList.head?==some 46)
def labsOf (xs:List Item):List ByteArray:=(xs.filter labI).map Item.label
def labs27:List ByteArray:=labsOf (objs27.flatMap Obj.items)
def seven:List ByteArray:=[kRt 8,kRt 9,kRt 10,kRt 11,kRt 12,kRt 13,kRt 14]
def isSeven (s:ByteArray):Bool:=seven.any fun t=>decide (t=s)
def numP (s:ByteArray):Bool:=decide (3<=s.size) && decide (s.data.toList.take 3=[110,117,109])
def labsB:Bool:=nodupB labs27 && labs27.all (fun s=>isSeven s || numP s) && decide ((labs27.filter isSeven).length=7) && decide (labs27.length<=1000)
end S
theorem Z2n:S.labsB=true:=by kernel_rfl
theorem labs_parts:S.labs27.Nodup/\(∀ s∈S.labs27,S.isSeven s=true\/S.numP s=true)/\(S.labs27.filter S.isSeven).length=7/\S.labs27.length<=1000:=by
 have h:=Z2n;unfold S.labsB at h;simp only [Bool.and_eq_true] at h;obtain ⟨⟨⟨h1,h2⟩,h3⟩,h4⟩:=h;refine ⟨Zh8 h1,fun s hs=>?_,of_decide_eq_true h3,of_decide_eq_true h4⟩;have:=List.all_eq_true.1 h2 s hs;simp only [Bool.or_eq_true] at this;exact this
theorem Zcd (x y:List S.Item):S.labsOf (x++y)=S.labsOf x++S.labsOf y:=by
 unfold S.labsOf;rw [List.filter_append,List.map_append]
end
end Go.Proofs.YtfhiobkkdcdmiaaGreatDoor
