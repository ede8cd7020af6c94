/- The assembler's work in memory; walks of its methods address and grows. -/
import Derived.Test.YtbgdomnalimjnaaAsmG
import Derived.Test.YtbgdomnalimjnaaMapS
set_option linter.unusedVariables false
set_option linter.unusedSimpArgs false
set_option linter.unusedSectionVars false
namespace Go.Proofs.Ytbgdomnalimjnaa
open Go.RowKit

/-- Where a label stands, as the map tells it. -/
def labF (xs : List S.Item) (s : ByteArray) : Option Int := if S.stands xs s < 0 then none else some (S.stands xs s)

/-- The assembler's work: a block of five cells; forms and addresses in rows of its own, labels in a map of its own. -/
structure Work (w : World) (B g gF gA m n : Nat) (A : Option Addr) (c : Nat) (xs : List S.Item) (base : Int) (F T : List Int) (f : ByteArray → Option Int) : Prop where
  blk : w.heap[g]? = some (.cells #[.slice A xs.length c, .int .i64 base, .slice (some ⟨gF, 0, none⟩) xs.length xs.length, .slice (some ⟨gA, 0, none⟩) (xs.length + 1) (xs.length + 1), .map (some m)] 120 (0, 0))
  forms : w.ownsRow B 3 1 (.slice (some ⟨gF, 0, none⟩) xs.length xs.length) xs.length (F.map (Value.int .i64))
  ats : w.ownsRow B 3 1 (.slice (some ⟨gA, 0, none⟩) (xs.length + 1) (xs.length + 1)) (xs.length + 1) (T.map (Value.int .i64))
  labels : MapS w m n f
  hg : B ≤ g
  hF : B ≤ gF
  hA : B ≤ gA
  hm : B ≤ m
  ne1 : gF ≠ gA

theorem blk_lt {w : World} {g : Nat} {o : Obj} (h : w.heap[g]? = some o) : g < w.heap.size := (Array.getElem?_eq_some_iff.1 h).1
theorem blk_cell {w : World} {g : Nat} {cs : Array Value} {t : TypeId} (h : w.heap[g]? = some (.cells cs t (0, 0))) (j : Nat) : w.cell? ⟨g, j, none⟩ = cs[j]? := by simp [World.cell?, h]

theorem Work.below {w w' : World} {B g gF gA m n : Nat} {A : Option Addr} {c : Nat} {xs : List S.Item} {base : Int} {F T : List Int} {f : ByteArray → Option Int} (h : Work w B g gF gA m n A c xs base F T f)
    (hb : Below w.heap.size w w') : Work w' B g gF gA m n A c xs base F T f :=
  ⟨(hb.block g (blk_lt h.blk)).trans h.blk, ownsRow_below h.forms hb, ownsRow_below h.ats hb, h.labels.below hb, h.hg, h.hF, h.hA, h.hm, h.ne1⟩

/-- The cells that a reader of the work meets. -/
theorem Work.cells {w : World} {B g gF gA m n : Nat} {A : Option Addr} {c : Nat} {xs : List S.Item} {base : Int} {F T : List Int} {f : ByteArray → Option Int} (h : Work w B g gF gA m n A c xs base F T f) :
    w.cell? ⟨g, 0, none⟩ = some (.slice A xs.length c) ∧ w.cell? ⟨g, 1, none⟩ = some (.int .i64 base) ∧ w.cell? ⟨g, 2, none⟩ = some (.slice (some ⟨gF, 0, none⟩) xs.length xs.length) ∧
    w.cell? ⟨g, 3, none⟩ = some (.slice (some ⟨gA, 0, none⟩) (xs.length + 1) (xs.length + 1)) ∧ w.cell? ⟨g, 4, none⟩ = some (.map (some m)) := by
  refine ⟨?_, ?_, ?_, ?_, ?_⟩ <;> rw [blk_cell h.blk] <;> rfl
theorem Work.form {w : World} {B g gF gA m n : Nat} {A : Option Addr} {c : Nat} {xs : List S.Item} {base : Int} {F T : List Int} {f : ByteArray → Option Int} (h : Work w B g gF gA m n A c xs base F T f) {k : Nat} (hk : k < xs.length) :
    w.cell? ⟨gF, k, none⟩ = some (.int .i64 (F.getD k 0)) ∧ w.frozen? ⟨gF, k, none⟩ = false := by
  have hl : F.length = xs.length := by have := h.forms.1; simpa using this
  obtain ⟨g', he, _, _, _, hc, hf⟩ := ownsRow_at h.forms (by omega)
  cases he
  refine ⟨?_, hf k⟩
  rw [hc k (by omega), List.getElem?_map]
  have : k < F.length := by omega
  simp [this]
theorem Work.at_ {w : World} {B g gF gA m n : Nat} {A : Option Addr} {c : Nat} {xs : List S.Item} {base : Int} {F T : List Int} {f : ByteArray → Option Int} (h : Work w B g gF gA m n A c xs base F T f) {k : Nat} (hk : k ≤ xs.length) :
    w.cell? ⟨gA, k, none⟩ = some (.int .i64 (T.getD k 0)) ∧ w.frozen? ⟨gA, k, none⟩ = false := by
  have hl : T.length = xs.length + 1 := by have := h.ats.1; simpa using this
  obtain ⟨g', he, _, _, _, hc, hf⟩ := ownsRow_at h.ats (by omega)
  cases he
  refine ⟨?_, hf k⟩
  rw [hc k (by omega), List.getElem?_map]
  have : k < T.length := by omega
  simp [this]
theorem Work.lts {w : World} {B g gF gA m n : Nat} {A : Option Addr} {c : Nat} {xs : List S.Item} {base : Int} {F T : List Int} {f : ByteArray → Option Int} (h : Work w B g gF gA m n A c xs base F T f) :
    g < w.heap.size ∧ gF < w.heap.size ∧ gA < w.heap.size ∧ m < w.heap.size :=
  ⟨blk_lt h.blk, (h.forms.lt gF rfl).2, (h.ats.lt gA rfl).2, h.labels.lt⟩

set_option maxRecDepth 100000 in
set_option maxHeartbeats 1000000 in
theorem asm_address (w : World) {B g gF gA m n : Nat} {A : Option Addr} {c : Nat} {xs : List S.Item} {base : Int} {F T : List Int} {f : ByteArray → Option Int} (h : Work w B g gF gA m n A c xs base F T f)
    (s : ByteArray) (hs : s.size ≤ maxLen) (j : Nat) (hf : f s = some (j : Int)) (hj : j ≤ xs.length) (hl : xs.length ≤ 1048576) (t : Int) (ht : T.getD j 0 = t) :
    Calls Try.prog 99 #[.pointer (some ⟨g, 0, none⟩), .string s] w fun e w' => e = .returned (.int .i64 t) ∧ Below w.heap.size w w' := by
  obtain ⟨h0, h1, h2, h3, h4⟩ := h.cells
  obtain ⟨l1, l2, l3, l4⟩ := h.lts
  have hat := (h.at_ hj).1
  rw [ht] at hat
  clear ht
  have hlook : ∀ x : Ext w, (Instr.lookup 118 (.map (some m)) (.string s) false).run Try.prog x.val = .ok (.int .i64 j) x.val := fun x => by
    have := (h.labels.below x.property).look hs
    rw [hf] at this
    exact this
  clear h1 h2 hf
  go_enter Try.func99, Try.ntmps99
  go_wp2_with fail
  refine wp_region_ext (by kernel_rfl) (by kernel_rfl) ?_
  have hE := ext_cells w
  repeat (first | go_big_quiet_step (fail))
  refine wpQuiet_nil ?_
  rintro _ ⟨⟨w1, hb1⟩, rfl⟩
  go_wp2_with fail
  go_ret
  exact ⟨rfl, hb1⟩

end Go.Proofs.Ytbgdomnalimjnaa
