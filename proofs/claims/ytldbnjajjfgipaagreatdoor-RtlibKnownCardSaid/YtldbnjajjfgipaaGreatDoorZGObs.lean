/- Parts. -/
import Derived.Test.YtldbnjajjfgipaaGreatDoorZVSpec
set_option linter.all false
namespace Go.Proofs.YtldbnjajjfgipaaGreatDoor
open S
set_option maxRecDepth 100000
open Go Go.RowKit Go.Proofs
def S.ag (os:List S.Obj):List AV:=os.flatMap λ o=>encObj o.name o.items
theorem Zmy:runFn Tryz.prog orcB 400 20 51 [.int .i64 0]=some (.row 15 (ag objs26),some (105,2)):=by kernel_rfl
theorem Zpa:AFn Tryz.prog LVE 51 [.int .i64 0] (.row 15 (ag objs26)) (some (105,2)):=Zt4 Zmy
