/- MemB, AsmB, AsmC, AsmH: joined.  Walk of pennantref03.Words. -/
import Derived.Test.YtidhglleeccpoaaDoorOwnC
import Derived.Test.YtidhglleeccpoaaDoorIsaD
import Derived.Test.YtidhglleeccpoaaDoorProg
import Derived.WideShapes
section
set_option linter.unusedVariables false
set_option linter.unusedSimpArgs false
set_option linter.unusedSectionVars false
namespace Go.Proofs.YtidhglleeccpoaaDoor
open Go.RowKit

theorem lab_eq {a b : ByteArray} (h : a = b) : (a.toList == b.toList) = true := by simp [h]
theorem lab_ne {a b : ByteArray} (h : a ≠ b) : (a.toList == b.toList) = false := by
  rw [beq_eq_false_iff_ne]
  intro e
  rw [ByteArray.toList_eq, ByteArray.toList_eq] at e
  exact h (WideShapes.bytes_inj e)
theorem int_beq {a b : Int} (h : a = b) : (a == b) = true := by simp [h]
theorem int_bne {a b : Int} (h : a ≠ b) : (a == b) = false := by simp [h]

/-- The cells of an item, from an offset on. -/
structure ItemAt (w : World) (b o : Nat) (x : S.Item) : Prop where
  c0 : w.cell? ⟨b, o, none⟩ = some (.int .i64 x.kind)
  c1 : w.cell? ⟨b, o + 1, none⟩ = some (.int .i64 x.inst.op)
  c2 : w.cell? ⟨b, o + 2, none⟩ = some (.int .i64 x.inst.d)
  c3 : w.cell? ⟨b, o + 3, none⟩ = some (.int .i64 x.inst.a)
  c4 : w.cell? ⟨b, o + 4, none⟩ = some (.int .i64 x.inst.b)
  c5 : w.cell? ⟨b, o + 5, none⟩ = some (.int .i64 x.inst.imm)
  c6 : w.cell? ⟨b, o + 6, none⟩ = some (.string x.label)
  c7 : w.cell? ⟨b, o + 7, none⟩ = some (.int .u32 x.word)
  w0 : 0 ≤ x.word
  w1 : x.word ≤ 4294967295

/-- A slice value reads as a list of items, below block B. -/
def Items (w : World) (B : Nat) (A : Option Addr) (xs : List S.Item) : Prop :=
  0 < xs.length → ∃ b off, A = some ⟨b, off, none⟩ ∧ b < B ∧ ∀ i x, xs[i]? = some x → ItemAt w b (off + i * 8) x

theorem ItemAt.keep {w w' : World} {b o : Nat} {x : S.Item} (h : ItemAt w b o x) (hk : ∀ o, w'.cell? ⟨b, o, none⟩ = w.cell? ⟨b, o, none⟩) : ItemAt w' b o x :=
  ⟨(hk _).trans h.c0, (hk _).trans h.c1, (hk _).trans h.c2, (hk _).trans h.c3, (hk _).trans h.c4, (hk _).trans h.c5, (hk _).trans h.c6, (hk _).trans h.c7, h.w0, h.w1⟩
theorem Items.below {w w' : World} {B : Nat} {A : Option Addr} {xs : List S.Item} (h : Items w B A xs) (hb : Below B w w') : Items w' B A xs := fun hp => by
  obtain ⟨b, off, e, hbB, hc⟩ := h hp
  exact ⟨b, off, e, hbB, fun i x hx => (hc i x hx).keep fun o => hb.cell (p := ⟨b, o, none⟩) hbB⟩
theorem Items.words {w : World} {B : Nat} {A : Option Addr} {xs : List S.Item} (h : Items w B A xs) : ∀ x ∈ xs, 0 ≤ x.word ∧ x.word ≤ 4294967295 := fun x hx => by
  obtain ⟨i, hi, rfl⟩ := List.getElem_of_mem hx
  obtain ⟨b, off, e, hbB, hc⟩ := h (by omega)
  have := hc i _ (List.getElem?_eq_getElem hi)
  exact ⟨this.w0, this.w1⟩
theorem Items.more {w : World} {B B' : Nat} {A : Option Addr} {xs : List S.Item} (h : Items w B A xs) (hB : B ≤ B') : Items w B' A xs := fun hp => by
  obtain ⟨b, off, e, hbB, hc⟩ := h hp
  exact ⟨b, off, e, Nat.lt_of_lt_of_le hbB hB, hc⟩
theorem Items.at_ {w : World} {B : Nat} {A : Option Addr} {xs : List S.Item} (h : Items w B A xs) {k : Nat} (hk : k < xs.length) :
    ∃ b off x, A = some ⟨b, off, none⟩ ∧ b < B ∧ xs[k]? = some x ∧ ItemAt w b (off + k * 8) x := by
  obtain ⟨b, off, e, hbB, hc⟩ := h (by omega)
  exact ⟨b, off, xs[k], e, hbB, List.getElem?_eq_getElem hk, hc k _ (List.getElem?_eq_getElem hk)⟩

def itemV (x : S.Item) : Value := .agg #[.int .i64 x.kind, .int .i64 x.inst.op, .int .i64 x.inst.d, .int .i64 x.inst.a, .int .i64 x.inst.b, .int .i64 x.inst.imm, .string x.label, .int .u32 x.word]
def itemCells (x : S.Item) : List Value := [.int .i64 x.kind, .int .i64 x.inst.op, .int .i64 x.inst.d, .int .i64 x.inst.a, .int .i64 x.inst.b, .int .i64 x.inst.imm, .string x.label, .int .u32 x.word]

theorem flat_item (L : List S.Item) (i : Nat) (x : S.Item) (h : L[i]? = some x) (j : Nat) (hj : j < 8) : (L.flatMap itemCells)[i * 8 + j]? = (itemCells x)[j]? := by
  induction L generalizing i with
  | nil => simp at h
  | cons q L ih =>
    cases i with
    | zero =>
      simp only [List.getElem?_cons_zero, Option.some.injEq] at h
      subst h
      rw [List.flatMap_cons, List.getElem?_append_left (by simp [itemCells]; omega)]
      simp
    | succ i =>
      have h1 := ih i (by simpa using h)
      have e1 : (i + 1) * 8 + j = (itemCells q).length + (i * 8 + j) := by simp [itemCells]; omega
      rw [List.flatMap_cons, e1, List.getElem?_append_right (by omega), Nat.add_sub_cancel_left]
      exact h1

theorem flat8_len (xs : List S.Item) : (xs.flatMap itemCells).length = xs.length * 8 := by
  induction xs with
  | nil => rfl
  | cons x r ih => rw [List.flatMap_cons, List.length_append, ih]; simp [itemCells]; omega
/-- Items read as a row of cells. -/
theorem Items.reads {w : World} {B : Nat} {A : Option Addr} {xs : List S.Item} (h : Items w B A xs) : Reads w B A (xs.flatMap itemCells) := fun hp => by
  rw [flat8_len] at hp
  obtain ⟨b, off, e, hB, hc⟩ := h (by omega)
  refine ⟨b, off, e, hB, fun i v hv => ?_⟩
  have hlt := (List.getElem?_eq_some_iff.1 hv).1
  rw [flat8_len] at hlt
  have hq : i / 8 < xs.length := by omega
  have hx : xs[i / 8]? = some xs[i / 8] := List.getElem?_eq_getElem hq
  have ei : i / 8 * 8 + i % 8 = i := by omega
  have h1 := flat_item xs (i / 8) _ hx (i % 8) (by omega)
  rw [ei, hv] at h1
  obtain ⟨h0, h1', h2, h3, h4, h5, h6, h7, _, _⟩ := hc (i / 8) _ hx
  have hr : i % 8 = 0 ∨ i % 8 = 1 ∨ i % 8 = 2 ∨ i % 8 = 3 ∨ i % 8 = 4 ∨ i % 8 = 5 ∨ i % 8 = 6 ∨ i % 8 = 7 := by omega
  have eo : off + i = off + i / 8 * 8 + i % 8 := by omega
  rw [eo]
  rcases hr with r | r | r | r | r | r | r | r
  all_goals
    rw [r] at h1 ⊢
    simp only [itemCells, List.getElem?_cons_zero, List.getElem?_cons_succ] at h1
    cases h1
    assumption
theorem cells_one (xs : List S.Item) : ∀ u ∈ xs.flatMap itemCells, u.oneCell' = true := by
  intro u hu
  obtain ⟨x, _, hx⟩ := List.mem_flatMap.1 hu
  simp only [itemCells, List.mem_cons, List.not_mem_nil, or_false] at hx
  rcases hx with rfl | rfl | rfl | rfl | rfl | rfl | rfl | rfl <;> rfl
/-- A row of the call's own reads as items. -/
theorem Items.of_own {w : World} {base : Nat} {e : TypeId} {A : Option Addr} {m c n : Nat} {xs : List S.Item} (h : w.ownsRow base e 8 (.slice A m c) n (xs.flatMap itemCells)) (hw : ∀ x ∈ xs, 0 ≤ x.word ∧ x.word ≤ 4294967295) : Items w w.heap.size A xs := fun hp => by
  have hl : (xs.flatMap itemCells).length = n * 8 := h.1
  rw [flat8_len] at hl
  obtain ⟨g, rfl, _, hg2, _, hg4, _⟩ := ownsRow_at h (by omega)
  refine ⟨g, 0, rfl, hg2, fun i x hx => ?_⟩
  have hi := (List.getElem?_eq_some_iff.1 hx).1
  have hc : ∀ j, j < 8 → w.cell? ⟨g, 0 + i * 8 + j, none⟩ = (itemCells x)[j]? := by
    intro j hj
    rw [Nat.zero_add, hg4 _ (by omega), flat_item xs i x hx j hj]
  obtain ⟨w0, w1⟩ := hw x (List.mem_of_getElem? hx)
  exact ⟨hc 0 (by omega), hc 1 (by omega), hc 2 (by omega), hc 3 (by omega), hc 4 (by omega), hc 5 (by omega), hc 6 (by omega), hc 7 (by omega), w0, w1⟩

theorem int_info : (Tryd.prog.info? 3).map (fun i => (i.zero, i.size, i.bytes)) = some (some (.int .i64 0), 1, 8) := by kernel_rfl

/-- A slice value reads as a list of ints, below block B. -/
def Ints (w : World) (B : Nat) (A : Option Addr) (xs : List Int) : Prop :=
  0 < xs.length → ∃ b off, A = some ⟨b, off, none⟩ ∧ b < B ∧ ∀ i x, xs[i]? = some x → w.cell? ⟨b, off + i, none⟩ = some (.int .i64 x)
theorem Ints.below {w w' : World} {B : Nat} {A : Option Addr} {xs : List Int} (h : Ints w B A xs) (hb : Below B w w') : Ints w' B A xs := fun hp => by
  obtain ⟨b, off, e, hbB, hc⟩ := h hp
  exact ⟨b, off, e, hbB, fun i x hx => (hb.cell (p := ⟨b, off + i, none⟩) hbB).trans (hc i x hx)⟩
theorem Ints.more {w : World} {B B' : Nat} {A : Option Addr} {xs : List Int} (h : Ints w B A xs) (hB : B ≤ B') : Ints w B' A xs := fun hp => by
  obtain ⟨b, off, e, hbB, hc⟩ := h hp
  exact ⟨b, off, e, Nat.lt_of_lt_of_le hbB hB, hc⟩
theorem Ints.at_ {w : World} {B : Nat} {A : Option Addr} {xs : List Int} (h : Ints w B A xs) {k : Nat} (hk : k < xs.length) :
    ∃ b off, A = some ⟨b, off, none⟩ ∧ b < B ∧ w.cell? ⟨b, off + k, none⟩ = some (.int .i64 (xs.getD k 0)) := by
  obtain ⟨b, off, e, hbB, hc⟩ := h (by omega)
  refine ⟨b, off, e, hbB, hc k _ ?_⟩
  simp [hk]
theorem Ints.some_ {w : World} {B : Nat} {A : Option Addr} {xs : List Int} (h : Ints w B A xs) {k : Nat} {v : Int} (hk : xs[k]? = some v) :
    ∃ b off, A = some ⟨b, off, none⟩ ∧ b < B ∧ w.cell? ⟨b, off + k, none⟩ = some (.int .i64 v) := by
  obtain ⟨b, off, e, hbB, hc⟩ := h (by have := (List.getElem?_eq_some_iff.1 hk).1; omega)
  exact ⟨b, off, e, hbB, hc k v hk⟩
theorem Ints.two {w : World} {B : Nat} {A : Option Addr} {xs : List Int} (h : Ints w B A xs) (hp : 0 < xs.length) :
    ∃ b off, A = some ⟨b, off, none⟩ ∧ b < B ∧ ∀ i x, xs[i]? = some x → w.cell? ⟨b, off + i, none⟩ = some (.int .i64 x) := h hp
theorem Ints.of_own {w : World} {base : Nat} {e : TypeId} {A : Option Addr} {m c n : Nat} {xs : List Int} (h : w.ownsRow base e 1 (.slice A m c) n (xs.map (Value.int .i64))) : Ints w w.heap.size A xs := fun hp => by
  have hl : xs.length = n := by have := h.1; simpa using this
  obtain ⟨g, rfl, hg1, hg2, hg3, hg4, _⟩ := ownsRow_at h (by omega)
  refine ⟨g, 0, rfl, hg2, fun i x hx => ?_⟩
  have hi := (List.getElem?_eq_some_iff.1 hx).1
  have h1 := hg4 i (by omega)
  rw [Nat.zero_add, h1, List.getElem?_map, hx]; rfl

theorem item_info : (Tryd.prog.info? 39).map (fun i => (i.zero, i.size, i.bytes)) = some (some (.agg #[.int .i64 0, .int .i64 0, .int .i64 0, .int .i64 0, .int .i64 0, .int .i64 0, .string ByteArray.empty, .int .u32 0]), 8, 72) := by kernel_rfl


end Go.Proofs.YtidhglleeccpoaaDoor
end

section
set_option linter.unusedVariables false
set_option linter.unusedSimpArgs false
set_option linter.unusedSectionVars false
namespace Go.Proofs.YtidhglleeccpoaaDoor
open Go.RowKit

end Go.Proofs.YtidhglleeccpoaaDoor
end

section
set_option linter.unusedVariables false
set_option linter.unusedSimpArgs false
set_option linter.unusedSectionVars false
namespace Go.Proofs.YtidhglleeccpoaaDoor
open Go.RowKit

def addrs (xs : List S.Item) (F : List Int) (base : Int) (n : Nat) : List Int := (List.range n).map (S.addr xs F base)
theorem addrs_succ (xs : List S.Item) (F : List Int) (base : Int) (n : Nat) : addrs xs F base (n + 1) = addrs xs F base n ++ [S.addr xs F base n] := by simp [addrs, List.range_succ]
theorem addrs_getD (xs : List S.Item) (F : List Int) (base : Int) (n k : Nat) (h : k < n) : (addrs xs F base n).getD k 0 = S.addr xs F base k := by simp [addrs, h]
theorem addrs_some (xs : List S.Item) (F : List Int) (base : Int) (n k : Nat) (h : k < n) : (addrs xs F base n)[k]? = some (S.addr xs F base k) := by simp [addrs, h]
theorem addrs_length (xs : List S.Item) (F : List Int) (base : Int) (n : Nat) : (addrs xs F base n).length = n := by simp [addrs]

end Go.Proofs.YtidhglleeccpoaaDoor
end

section
set_option linter.unusedVariables false
set_option linter.unusedSimpArgs false
set_option linter.unusedSectionVars false
namespace Go.Proofs.YtidhglleeccpoaaDoor
open Go.RowKit

theorem u32_infoA : (Tryd.prog.info? 22).map (fun i => (i.zero, i.size, i.bytes)) = some (some (.int .u32 0), 1, 4) := by kernel_rfl

/-- What a function that tells words leaves: a list of words of its own. -/
def Told (w : World) (L : List Int) (e : Ending) (w' : World) : Prop :=
  ∃ v, e = .returned v ∧ w'.ownsRow w.heap.size 22 1 v L.length (L.map (Value.int .u32)) ∧ Below w.heap.size w w'
theorem told_lit {w w1 : World} {L : List Int} {cs : Array Value} {n : Nat} (hn : n = L.length) (hb : Below w.heap.size w w1) (hcs : cs = (L.map (Value.int .u32)).toArray) (h : L.length ≤ 1000) :
    Told w L (.returned (.slice (some ⟨w1.heap.size, 0, none⟩) n n)) (w1.alloc (.cells cs 22)) := by
  subst hcs hn
  refine ⟨_, rfl, ?_, hb.alloc hb.size _⟩
  have h1 := World.ownsRow_lit (base := w.heap.size) (size := 1) (e := 22) w1 (L.map (Value.int .u32)).toArray L.length hb.size (by simp only [maxLen]; omega) (by simp)
  simpa using h1

end Go.Proofs.YtidhglleeccpoaaDoor
end
