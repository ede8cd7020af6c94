/- Parts. -/
import Derived.Test.YtlldagdhlfpihaaGreatDoorZGStt
set_option linter.unusedVariables false
set_option linter.unusedSimpArgs false
set_option linter.unusedSectionVars false
namespace Go.Proofs.YtlldagdhlfpihaaGreatDoor
open Go.RowKit
theorem reach_le {g:S.Gr}{a:Int}(hg:g.Ok a){roots:List Int}{n:Int}{l:List Nat}(h:S.Reached g roots n l):n<=S.sizes g.ns:=by
 rw [h.sum,<- total_range hg]
 exact total_le hg h.nd h.rng fun i hi=>List.mem_range.2 (h.rng i hi)
end Go.Proofs.YtlldagdhlfpihaaGreatDoor
