/- Parts. -/
import Derived.Test.YtldbnjajjfgipaaGreatDoorProg
import Derived.Test.YtldbnjajjfgipaaGreatDoorZOwn
set_option linter.all false
set_option maxHeartbeats 1600000
namespace Go.Proofs.YtldbnjajjfgipaaGreatDoor
open S Go.Proofs.Tryz Go.RowKit
theorem Zf5 (n:Int)(w:World) :
 Calls prog 194 #[.int .i64 n] w λ e w'=>e=.returned (.int .i64 (form n))/\w=w':=by
 go_enter func194,ntmps194
 go_wp2
 all_goals
  go_ret
  exact⟨Zs (by grind [form]),rfl⟩
theorem Zm1 (f:Int)(w:World) :
 Calls prog 193 #[.int .i64 f] w λ e w'=>e=.returned (.tuple #[.bool (hasD f),.bool (hasA f),.bool (hasB f),.int .i64 (bitsOf f)])/\w=w':=by
 go_enter func193,ntmps193
 go_wp2
 all_goals
  refine bodyPost_ret (Zlq rfl _ _ _) rfl ?_;refine⟨?_,rfl⟩;simp only[hasD,hasA,hasB,bitsOf];simp
  grind
theorem Ziv (n:Int)(w:World) :
 Calls prog 244 #[.int .i64 n] w λ e w'=>e=.returned (.tuple #[.int .i64 (least n),.int .i64 (most n)])/\w=w':=by
 go_enter func244,ntmps244
 go_wp2_with (go_at_call 194;refine(Zf5 _ _).mono ?_;rintro e w' ⟨rfl,rfl⟩)
 all_goals
  go_ret2
  refine⟨?_,rfl⟩;simp
  grind [least,most]
theorem Zpc (n:Int)(w:World) :
 Calls prog 196 #[.int .i64 n] w λ e w'=>e=.returned (.bool (decide (least n<0)))/\w=w':=by
 go_enter func196,ntmps196
 go_wp2_with (go_at_call 244;refine(Ziv _ _).mono ?_;rintro e w' ⟨rfl,rfl⟩)
 all_goals
  go_ret
  exact⟨Zf rfl,rfl⟩
theorem Zk8 (is:Bool)(n:Int)(w:World) :
 Calls prog 270 #[.bool is,.int .i64 n] w λ e w'=>e=.returned (.bool (reg is n))/\w=w':=by
 cases is
 all_goals
  go_enter func270,ntmps270
  go_wp2
  all_goals
   go_ret
   exact⟨Zf (by grind [reg]),rfl⟩
theorem asm_Turned (n:Int) (w:World) :
    Calls prog 241 #[.int .i64 n] w λ e w'=>e=.returned (.int .i64 (turned n))/\w=w':=by
  go_enter func241,ntmps241
  go_wp2
  all_goals
    go_ret
    exact⟨Zs (by grind [turned]),rfl⟩
theorem Zbi (op d a b imm:Int)(w:World) :
 Calls prog 245 #[.agg #[.int .i64 op,.int .i64 d,.int .i64 a,.int .i64 b,.int .i64 imm]] w
  λ e w'=>e=.returned (.int .i64 (chk ⟨op,d,a,b,imm⟩))/\Below w.heap.size w w':=by
 go_enter func245,ntmps245
 go_wp2_with (first
  | (go_at_call 194;refine(Zf5 _ _).mono ?_;rintro e w' ⟨rfl,rfl⟩)
  | (go_at_call 193;refine(Zm1 _ _).mono ?_;rintro e w' ⟨rfl,rfl⟩)
  | (go_at_call 244;refine(Ziv _ _).mono ?_;rintro e w' ⟨rfl,rfl⟩)
  | (go_at_call 270;refine(Zk8 _ _ _).mono ?_;rintro e w' ⟨rfl,rfl⟩))
 all_goals
  go_ret
  exact⟨Zs (by grind [good,chk]),(Below.refl _ _).alloc (Nat.le_refl _) _⟩
