/- Parts. -/
import Derived.Test.YtldbnjajjfgipaaGreatDoorZLinkS
import Derived.Deep.RegionWith
set_option linter.all false
set_option maxHeartbeats 1000000
open Nat renaming le_refl->Yd
open Go.RowKit.Below renaming refl->Yj
namespace Go.Proofs.YtldbnjajjfgipaaGreatDoor
open S Go.Proofs.Tryz Go.RowKit
set_option maxRecDepth 100000
theorem Zf2 (k op d a b imm:Int)(lab:ByteArray)(wd form:Int)(w:World)(c:k=3->1<=form/\form<=3)(f:k=4->1<=form/\form<=2)(i:0<=wd)(g:wd<=4294967295) :
 Calls prog 269 #[.agg #[.int .i64 k,.int .i64 op,.int .i64 d,.int .i64 a,.int .i64 b,.int .i64 imm,.string lab,.int .u32 wd],.int .i64 form] w
  λ e w'=>e=.returned (.int .i64 (size ⟨k,⟨op,d,a,b,imm⟩,lab,wd⟩ form))/\Below w.heap.size w w':=by
 by_cases c3:k=3
 .obtain⟨f1,f2⟩:=c c3
  clear c f;subst c3;have hf:form=1\/form=2\/form=3:=by omega
  clear f1 f2;have ix:∀w:World,(Instr.index 294 (.agg #[.int .i64 0,.int .i64 1,.int .i64 2,.int .i64 4]) (.int .i64 1)).run prog w=.ok (.int .i64 1) w:=λ _=>by kernel_rfl
  have h:∀w:World,(Instr.index 294 (.agg #[.int .i64 0,.int .i64 1,.int .i64 2,.int .i64 4]) (.int .i64 2)).run prog w=.ok (.int .i64 2) w:=λ _=>by kernel_rfl
  have iz:∀w:World,(Instr.index 294 (.agg #[.int .i64 0,.int .i64 1,.int .i64 2,.int .i64 4]) (.int .i64 3)).run prog w=.ok (.int .i64 4) w:=λ _=>by kernel_rfl
  rcases hf with rfl|rfl|rfl
  all_goals
   go_enter func269,ntmps269
   go_wp2
   go_ret
   exact⟨Zs (by simp[size]),(Yj _ _).alloc (Yd _) _⟩
 .by_cases c4:k=4
  .obtain⟨f1,f2⟩:=f c4
   clear c f c3;subst c4;have hf:form=1\/form=2:=by omega
   clear f1 f2;have ix:∀w:World,(Instr.index 295 (.agg #[.int .i64 0,.int .i64 1,.int .i64 3]) (.int .i64 1)).run prog w=.ok (.int .i64 1) w:=λ _=>by kernel_rfl
   have h:∀w:World,(Instr.index 295 (.agg #[.int .i64 0,.int .i64 1,.int .i64 3]) (.int .i64 2)).run prog w=.ok (.int .i64 3) w:=λ _=>by kernel_rfl
   rcases hf with rfl|rfl
   all_goals
    go_enter func269,ntmps269
    go_wp2
    go_ret
    exact⟨Zs (by simp[size]),(Yj _ _).alloc (Yd _) _⟩
  .clear c f
   have d3:(k==3)=false:=by simp[c3]
   have d4:(k==4)=false:=by simp[c4]
   go_enter func269,ntmps269
   go_wp2
   all_goals
    go_ret
    exact⟨Zs (by simp_all[size]),(Yj _ _).alloc (Yd _) _⟩
theorem Zkp (k op d a b imm:Int)(lab:ByteArray)(wd:Int)(w:World) :
 Calls prog 236 #[.agg #[.int .i64 k,.int .i64 op,.int .i64 d,.int .i64 a,.int .i64 b,.int .i64 imm,.string lab,.int .u32 wd]] w
  λ e w'=>e=.returned (.bool (named ⟨k,⟨op,d,a,b,imm⟩,lab,wd⟩))/\Below w.heap.size w w':=by
 go_enter func236,ntmps236
 go_wp2
 all_goals
  go_ret
  exact⟨Zf (by simp only[named];grind),(Yj _ _).alloc (Yd _) _⟩
theorem Zkq (k op d a b imm:Int)(lab:ByteArray)(wd:Int)(w:World) :
 Calls prog 235 #[.agg #[.int .i64 k,.int .i64 op,.int .i64 d,.int .i64 a,.int .i64 b,.int .i64 imm,.string lab,.int .u32 wd]] w
  λ e w'=>e=.returned (.int .i64 (chkItem ⟨k,⟨op,d,a,b,imm⟩,lab,wd⟩))/\Below w.heap.size w w':=by
 by_cases c3:k=3
 .subst c3
  go_enter func235,ntmps235
  go_wp2
  refine Zp (by kernel_rfl) (by kernel_rfl) ?_;have hE:=Zo (w.alloc (.cells #[.int .i64 3,.int .i64 op,.int .i64 d,.int .i64 a,.int .i64 b,.int .i64 imm,.string lab,.int .u32 wd] 135))
  repeat (first
   | go_big_quiet_step ((first
    | (go_at_call 241;exact Zcj (asm_Turned _ _))
    | (go_at_call 245;exact Zdz (Zbi _ _ _ _ _ _)))))
  refine wpQuiet_nil ?_;rintro _ ⟨⟨w1,c⟩,rfl⟩
  go_wp2
  go_ret
  refine⟨Zs ?_,((Yj _ _).alloc (Yd _) _).trans (c.mono (by simp))⟩;simp only[Zo5];simp[chkItem]
 .have d3:(k==3)=false:=by simp[c3]
  go_enter func235,ntmps235
  go_wp2_with (go_at_call 245;refine(Zbi _ _ _ _ _ _).mono ?_;rintro e w' ⟨rfl,hb⟩)
  all_goals
   go_ret
   first
    | exact⟨Zs (by first | (simp only[Zuo];grind [chkItem,chk]) | grind [chkItem,chk]),((Yj _ _).alloc (Yd _) _).trans (Below.mono ‹_› (by simp))⟩
    | exact⟨Zs (by grind [chkItem,chk]),(Yj _ _).alloc (Yd _) _⟩
