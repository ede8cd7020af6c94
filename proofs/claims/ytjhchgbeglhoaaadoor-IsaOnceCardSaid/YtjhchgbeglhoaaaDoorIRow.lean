/- What the listed variables give, and a world that meets the list: for the rows of layer 1. -/
import Derived.Test.YtjhchgbeglhoaaaDoorRows
import Derived.Test.YtjhchgbeglhoaaaDoorIText
import Derived.Test.YtjhchgbeglhoaaaDoorRowEnd
import Derived.ProofKit
import Derived.OpenShut
import Derived.LaidMore
import Derived.LaidHandle
import Derived.MakeChecks
import Derived.Lib.LaidTab
import Derived.Stop.LaidErr
import Derived.Deep.DeepHandedRow
import Derived.Deep.DeepWitnessRowRef
set_option maxRecDepth 100000
set_option linter.unusedVariables false
set_option linter.unusedSimpArgs false
set_option linter.unusedSectionVars false
namespace Go.Proofs.YtjhchgbeglhoaaaDoor
open Go.ChangeShapes Go.WideShapes Go.ChangeAt Go.RowKit

theorem Tryd.star : "*" ++ "errors.errorString" = "*errors.errorString" := by decide
theorem Tryd.rowErr (u : TypeId) (h : Tryd.prog.typeName? 3 u = some "*errors.errorString") : u = 110 :=
  typeName_ptr_named (nm := "errors.errorString") (by rw [Tryd.star]; kernel_rfl) (by kernel_rfl) (by decide) u (by rw [Tryd.star]; exact h)
theorem gPow : Tryd.prog.globalNamed "internal/strconv.uint64pow10" = some 2 := by kernel_rfl
theorem tPow : (Tryd.prog.globals[2]?).map (·.type) = some 106 := by kernel_rfl
theorem cPow : Tryd.prog.cellsOf 106 = 20 := by kernel_rfl
theorem cU64 : Tryd.prog.cellsOf 92 = 1 := by kernel_rfl
theorem gSyn : Tryd.prog.globalNamed "strconv.ErrSyntax" = some 0 := by kernel_rfl
theorem tSyn : (Tryd.prog.globals[0]?).map (·.type) = some 65 := by kernel_rfl
theorem gRng : Tryd.prog.globalNamed "strconv.ErrRange" = some 1 := by kernel_rfl
theorem tRng : (Tryd.prog.globals[1]?).map (·.type) = some 65 := by kernel_rfl
theorem cErrS : Tryd.prog.cellsOf 112 = 1 := by kernel_rfl
theorem cStr : Tryd.prog.cellsOf 9 = 1 := by kernel_rfl

/-- What the rows list. -/
def laidL : List (String × DataW Unit) := Rows.isaOpsRow.laid

/-- A world for the witness: what the door's own run leaves, the pinned table laid. -/
def pinCells : Array Value := match Go.Pinned.utf8First with
  | .agg xs => (xs.map fun
    | .lit (.int k n) => Value.int k n
    | _ => .nilIface).toArray
  | _ => #[]
noncomputable def laidWorld (os : Os) : World :=
  { World.doorLaid Tryd.prog 100 os with heap := (World.doorLaid Tryd.prog 100 os).heap.modify 4 fun
      | .cells _ t frozen => .cells pinCells t frozen
      | o => o }
theorem laid_met (os : Os) (args : Array Value) : laidMetH Tryd.prog laidL ((laidWorld os).forCall (fun _ _ => 0) ⟨#[], args, []⟩).memory :=
  laidMetH_of_parts3 (fuel := 8) (laidMet_of_run' 8 (by kernel_rfl) (by kernel_rfl)) (by kernel_rfl) (by kernel_rfl)

theorem lv_of {W : World} (h : laidMetH Tryd.prog laidL W) (hs : W.ShapedOpen Tryd.prog) : LV W := by
  rw [MakeChecks.laidMetH_plain _ _ _ (by kernel_rfl)] at h
  have h3 := laidMet.tail (laidMet.tail h)
  have h5 := laidMet.tail (laidMet.tail h3)
  have h6 := laidMet.tail h5
  obtain ⟨a1, s1, hv1, _⟩ := laid_sentinel h5 gRng tRng Tryd.underlying65 Tryd.rowErr Tryd.underlying110 Tryd.underlying112 rfl rfl Tryd.underlying9 cErrS cStr
  obtain ⟨a2, s2, hv2, _⟩ := laid_sentinel h6 gSyn tSyn Tryd.underlying65 Tryd.rowErr Tryd.underlying110 Tryd.underlying112 rfl rfl Tryd.underlying9 cErrS cStr
  have hm := cell_of_shapedOpen_int (g := 3) (t := 3) (zero := #[.int .i64 0]) (k := .i64) hs (of_decide_eq_true (by kernel_rfl)) (by kernel_rfl) rfl (by kernel_rfl) (by kernel_rfl) Tryd.underlying3
  have hsz : 8 ≤ W.heap.size := by
    obtain ⟨o, o0, ho, _⟩ := hs.2 8 (of_decide_eq_true (by kernel_rfl)) (of_decide_eq_true (by kernel_rfl))
    rcases Nat.lt_or_ge 8 W.heap.size with h8 | h8
    · exact Nat.le_of_lt h8
    · simp [Array.getElem?_eq_none h8] at ho
  refine ⟨Lib.tabIs_of_head gPow tPow Tryd.underlying106 Tryd.underlying92 cU64 cPow h3, hm, ⟨_, World.var?_cell gSyn hv2 0, .inr ⟨_, _, rfl⟩⟩, ⟨_, World.var?_cell gRng hv1 0, .inr ⟨_, _, rfl⟩⟩, hsz⟩

theorem wf_u32 {y : Int} (h : (Lit.int .u32 y).wf = true) : 0 ≤ y ∧ y ≤ 4294967295 := by
  simp [Lit.wf, IntKind.min, IntKind.max, IntKind.signed, IntKind.bits] at h
  omega
theorem int_cells : Tryd.prog.cellsOf 3 = 1 := by kernel_rfl
theorem inst_cells : Tryd.prog.cellsOf 27 = 5 := by kernel_rfl
section
variable {H : Type} {enc : TypeId × Value → H} {w : World} {base : Nat} {spare : Nat → Bool} {held : Bool} {fuel : Nat} {cs : List Value} {x : DataW H × List MemPlace}
theorem open_inst_cells (h : DataW.trod enc Tryd.prog w base spare held fuel 27 cs = some x) :
    ∃ i : S.Inst, cs = [.int .i64 i.op, .int .i64 i.d, .int .i64 i.a, .int .i64 i.b, .int .i64 i.imm] := by
  obtain ⟨xs, n, _, _, hl, hxl, hf⟩ := DataW.trod_struct Tryd.underlying27 h
  rw [inst_cells] at hl
  match cs, hl with
  | [c0, c1, c2, c3, c4], _ =>
    have key : ∀ (i : Nat) (f : Field) (c : Value), (i < xs.length) → f.type = 3 → DataW.trod enc Tryd.prog w base spare held n f.type (([c0, c1, c2, c3, c4].drop f.offset).take (Tryd.prog.cellsOf f.type)) = xs[i]? →
        ([c0, c1, c2, c3, c4].drop f.offset).take 1 = [c] → ∃ n, c = .int .i64 n := by
      intro i f c hi ht h hc
      rw [ht, int_cells, hc, List.getElem?_eq_getElem hi] at h
      obtain ⟨m, hm, _⟩ := DataW.trod_int Tryd.underlying3 h
      exact ⟨m, by simpa using hm⟩
    have hx : xs.length = 5 := hxl
    obtain ⟨n0, rfl⟩ := key 0 _ c0 (by omega) rfl (hf 0 _ rfl) rfl
    obtain ⟨n1, rfl⟩ := key 1 _ c1 (by omega) rfl (hf 1 _ rfl) rfl
    obtain ⟨n2, rfl⟩ := key 2 _ c2 (by omega) rfl (hf 2 _ rfl) rfl
    obtain ⟨n3, rfl⟩ := key 3 _ c3 (by omega) rfl (hf 3 _ rfl) rfl
    obtain ⟨n4, rfl⟩ := key 4 _ c4 (by omega) rfl (hf 4 _ rfl) rfl
    exact ⟨⟨n0, n1, n2, n3, n4⟩, rfl⟩
theorem open_instV {b0 : Nat} {v : Value} {d : DataW H} {ps : List MemPlace} (hval : Value.okWide Tryd.prog w .any b0 27 v) (h : DataW.Trod enc Tryd.prog w base spare held 27 v d ps) :
    ∃ i : S.Inst, v = .agg #[.int .i64 i.op, .int .i64 i.d, .int .i64 i.a, .int .i64 i.b, .int .i64 i.imm] := by
  obtain ⟨fuel, hf⟩ := h
  obtain ⟨cs, rfl, hsz⟩ := okWide_struct Tryd.underlying27 hval
  obtain ⟨i, hi⟩ := open_inst_cells hf
  refine ⟨i, ?_⟩
  obtain ⟨l⟩ := cs
  have : l = [.int .i64 i.op, .int .i64 i.d, .int .i64 i.a, .int .i64 i.b, .int .i64 i.imm] := hi
  rw [this]
end

end Go.Proofs.YtjhchgbeglhoaaaDoor
