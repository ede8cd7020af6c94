/- Parts. -/
import Derived.Test.YtcjhmiijbojgeaaGreatDoorZQj
import Derived.Test.YtcjhmiijbojgeaaGreatDoorZBAnL
set_option linter.all false
namespace Go.Proofs.YtcjhmiijbojgeaaGreatDoor
open S
set_option maxRecDepth 100000
open Go Go.RowKit Go.Proofs
def S.ac (os:List S.Obj):List AV:=os.flatMap λ o=>encObj o.name o.items
theorem Zoq:runFn Tryz.prog orcB 400 20 38 [.int .i64 0]=some (.row 15 (ac objs26),some (82,2)):=by kernel_rfl
theorem Zrg:AFn Tryz.prog LVE 38 [.int .i64 0] (.row 15 (ac objs26)) (some (82,2)):=Zv6 Zoq
