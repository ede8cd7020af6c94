/- Walk of slices.Clone at items; link.Find, link.Size. -/
import Derived.Test.YtbgdomnalimjnaaLinkB
import Derived.Test.YtbgdomnalimjnaaItemA
set_option linter.unusedVariables false
set_option linter.unusedSimpArgs false
set_option linter.unusedSectionVars false
namespace Go.Proofs.Ytbgdomnalimjnaa
open Go.RowKit

theorem item_info : (Try.prog.info? 57).map (fun i => (i.zero, i.size, i.bytes)) = some (some (.agg #[.int .i64 0, .int .i64 0, .int .i64 0, .int .i64 0, .int .i64 0, .int .i64 0, .string ByteArray.empty, .int .u32 0]), 8, 72) := by kernel_rfl

def ClonePost (xs : List S.Item) (w : World) (e : Ending) (w' : World) : Prop :=
  ∃ v, e = .returned v ∧ w'.ownsRow w.heap.size 57 8 v xs.length (xs.flatMap itemCells) ∧ Below w.heap.size w w'

set_option maxHeartbeats 1000000 in
set_option maxRecDepth 100000 in
theorem clone_items (A : Option Addr) (c : Nat) (xs : List S.Item) (w : World) (hi : Items w w.heap.size A xs) (hl : xs.length ≤ 1048576) :
    Calls Try.prog 88 #[.slice A xs.length c] w (ClonePost xs w) := by
  have hn := fun (w : World) (A : Option Addr) (n c n1 c1 : Nat) => Lib.run_eql_slice_nil (P := Try.prog) w 47 57 A n c n1 c1 Try.underlying47
  cases A with
  | none =>
    go_enter Try.func88, Try.ntmps88
    have hx0 : xs = [] := by
      cases xs with
      | nil => rfl
      | cons x r =>
        obtain ⟨b, off, e, _⟩ := hi (by simp)
        cases e
    subst hx0
    go_wp2_with fail
    go_ret
    exact ⟨_, rfl, World.ownsRow_nil _ _ _ _, Below.refl _ _⟩
  | some a =>
    have hr := hi.reads.below ((Below.refl w.heap.size w).alloc (Nat.le_refl _) (.cells #[] 57))
    go_enter Try.func88, Try.ntmps88
    go_wp2_with (at_builtin
                 refine wpList_appendsN rfl (.tmp 5) (.tmp 6) _ rfl w.heap.size 57 item_info Try.underlying47 rfl (by decide) _ 0 [] rfl (World.ownsRow_made w #[] 0 (Nat.le_refl _) (by simp [maxLen]) (by simp)) w.heap.size (some a) xs.length c (xs.flatMap itemCells) rfl (flat8_len xs) (fun h => by cases h) hr (cells_one xs) (by simp only [maxLen]; omega) (by omega) (by simp) ?_
                 intro v' w1 ho1 hg1 hb1 hat1)
    go_ret
    simp only [Nat.zero_add, List.nil_append] at ho1
    exact ⟨_, rfl, ho1, ((Below.refl _ _).alloc (Nat.le_refl _) _).trans hb1⟩

end Go.Proofs.Ytbgdomnalimjnaa
