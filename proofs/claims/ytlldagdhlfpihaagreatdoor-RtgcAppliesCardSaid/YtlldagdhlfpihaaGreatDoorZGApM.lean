/- Parts. -/
import Derived.Test.YtlldagdhlfpihaaGreatDoorZGPrs
set_option linter.unusedVariables false
set_option linter.unusedSimpArgs false
set_option linter.unusedSectionVars false
namespace Go.Proofs.YtlldagdhlfpihaaGreatDoor
open Go.RowKit
theorem listAt_of {I:S.Img}{C:S.Mach}{st':S.Vw}(hs:S.Sees I C st'){lo hi:Int}:∀ {L:List Int} {v:Int},0<=lo->hi<=300000000->S.LAtE I st'.mem lo hi 38 v L->S.ListAt C v L
 | [],v,_,_,h=>h
 | x::r,v,h0,h1,⟨a,e1,e2,e3,e4,e5,e6,e7⟩=>by
  have hl:=hs.len
  have g:∀ j:Nat,j<3->C.memV (a+j)=st'.mem (a+j):=fun j hj=>by
   have hd:=e4 j hj
   rw [mv_mem hd.1 (by have:=hd.2.1;omega)]
   exact hs.mem _ hd.1 hd.2.1 hd.2.2.1
  have g0:=g 0 (by decide)
  have g1:=g 1 (by decide)
  have g2:=g 2 (by decide)
  have q:v/4=a:=by omega
  refine ⟨by omega,by omega,by omega,?_,?_,?_⟩
  ·rw [q];simpa using g0.trans (by simpa using e5)
  ·rw [q];simpa using g1.trans (by simpa using e6)
  ·rw [q]
   have:C.memV (a+2)=st'.mem (a+2):=by simpa using g2
   rw [this]
   exact listAt_of hs h0 h1 e7
end Go.Proofs.YtlldagdhlfpihaaGreatDoor
