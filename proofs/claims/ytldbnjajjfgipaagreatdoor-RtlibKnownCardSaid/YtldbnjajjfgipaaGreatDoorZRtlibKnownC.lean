/- Parts. -/
import Derived.Test.YtldbnjajjfgipaaGreatDoorZYx
import Derived.Test.YtldbnjajjfgipaaGreatDoorRows
import Derived.JoinedOf
import Derived.JoinedCond
import Derived.KernelRfl
set_option linter.all false
set_option maxHeartbeats 40000000
namespace Go.Proofs.YtldbnjajjfgipaaGreatDoor
set_option maxRecDepth 100000
theorem Zfj:joinedFacts Tryz.pinned.checked.prog 4 Tryz.f4 (OpenSpec.ofChange Rows.rtlibKnownSpec).bare Rows.rtlibKnownRow=true:=by
 unfold joinedFacts;simp only[Bool.and_eq_true]
 (repeat' apply And.intro)
 all_goals (as_aux_lemma=>kernel_rfl)
