/- Parts. -/
import Derived.Test.YtcjhmiijbojgeaaGreatDoorProg
import Derived.Test.YtcjhmiijbojgeaaGreatDoorZAsmLfp
import Derived.Test.YtcjhmiijbojgeaaGreatDoorZOwn
set_option linter.all false
set_option maxHeartbeats 1600000
namespace Go.Proofs.YtcjhmiijbojgeaaGreatDoor
open S Go.Proofs.Tryz Go.RowKit
theorem Zg8 (n:Int)(w:World) :
 Calls prog 154 #[.int .i64 n] w λ e w'=>e=.returned (.int .i64 (form n))/\w=w':=by
 go_enter func154,ntmps154
 go_wp2
 all_goals
  go_ret
  exact⟨Zu (by grind [form]),rfl⟩
theorem Zor (f:Int)(w:World) :
 Calls prog 153 #[.int .i64 f] w λ e w'=>e=.returned (.tuple #[.bool (hasD f),.bool (hasA f),.bool (hasB f),.int .i64 (bitsOf f)])/\w=w':=by
 go_enter func153,ntmps153
 go_wp2
 all_goals
  refine bodyPost_ret (Zmr rfl _ _ _) rfl ?_;refine⟨?_,rfl⟩;simp only[hasD,hasA,hasB,bitsOf];simp
  grind
theorem Zj1 (n:Int)(w:World) :
 Calls prog 187 #[.int .i64 n] w λ e w'=>e=.returned (.tuple #[.int .i64 (least n),.int .i64 (most n)])/\w=w':=by
 go_enter func187,ntmps187
 go_wp2_with (go_at_call 154;refine(Zg8 _ _).mono ?_;rintro e w' ⟨rfl,rfl⟩)
 all_goals
  go_ret2
  refine⟨?_,rfl⟩;simp
  grind [least,most]
theorem Zrh (n:Int)(w:World) :
 Calls prog 156 #[.int .i64 n] w λ e w'=>e=.returned (.bool (decide (least n<0)))/\w=w':=by
 go_enter func156,ntmps156
 go_wp2_with (go_at_call 187;refine(Zj1 _ _).mono ?_;rintro e w' ⟨rfl,rfl⟩)
 all_goals
  go_ret
  exact⟨Zf rfl,rfl⟩
theorem Zml (is:Bool)(n:Int)(w:World) :
 Calls prog 214 #[.bool is,.int .i64 n] w λ e w'=>e=.returned (.bool (reg is n))/\w=w':=by
 cases is
 all_goals
  go_enter func214,ntmps214
  go_wp2
  all_goals
   go_ret
   exact⟨Zf (by grind [reg]),rfl⟩
theorem asm_Turned (n:Int) (w:World) :
    Calls prog 201 #[.int .i64 n] w λ e w'=>e=.returned (.int .i64 (turned n))/\w=w':=by
  go_enter func201,ntmps201
  go_wp2
  all_goals
    go_ret
    exact⟨Zu (by grind [turned]),rfl⟩
theorem Zbz (op d a b imm:Int)(w:World) :
 Calls prog 188 #[.agg #[.int .i64 op,.int .i64 d,.int .i64 a,.int .i64 b,.int .i64 imm]] w
  λ e w'=>e=.returned (.int .i64 (chk ⟨op,d,a,b,imm⟩))/\Below w.heap.size w w':=by
 go_enter func188,ntmps188
 go_wp2_with (first
  | (go_at_call 154;refine(Zg8 _ _).mono ?_;rintro e w' ⟨rfl,rfl⟩)
  | (go_at_call 153;refine(Zor _ _).mono ?_;rintro e w' ⟨rfl,rfl⟩)
  | (go_at_call 187;refine(Zj1 _ _).mono ?_;rintro e w' ⟨rfl,rfl⟩)
  | (go_at_call 214;refine(Zml _ _ _).mono ?_;rintro e w' ⟨rfl,rfl⟩))
 all_goals
  go_ret
  exact⟨Zu (by grind [good,chk]),(Below.refl _ _).alloc (Nat.le_refl _) _⟩
