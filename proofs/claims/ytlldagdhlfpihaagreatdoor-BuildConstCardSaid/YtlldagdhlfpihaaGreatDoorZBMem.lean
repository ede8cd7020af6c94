/- MemB, LinkS, BMem: joined.  Expressions, statements and routines in memory. -/
import Derived.Test.YtlldagdhlfpihaaGreatDoorZOwnC
import Derived.Test.YtlldagdhlfpihaaGreatDoorZBSpec
import Derived.Test.YtlldagdhlfpihaaGreatDoorProg
import Derived.WideShapes
section
set_option linter.unusedVariables false
set_option linter.unusedSimpArgs false
set_option linter.unusedSectionVars false
namespace Go.Proofs.YtlldagdhlfpihaaGreatDoor
open Go.RowKit

theorem int_beq {a b : Int} (h : a = b) : (a == b) = true := by simp [h]
theorem int_bne {a b : Int} (h : a ≠ b) : (a == b) = false := by simp [h]

/-- The cells of an item, from an offset on. -/
structure ItemAt (w : World) (b o : Nat) (x : S.Item) : Prop where
  c0 : w.cell? ⟨b, o, none⟩ = some (.int .i64 x.kind)
  c1 : w.cell? ⟨b, o + 1, none⟩ = some (.int .i64 x.inst.op)
  c2 : w.cell? ⟨b, o + 2, none⟩ = some (.int .i64 x.inst.d)
  c3 : w.cell? ⟨b, o + 3, none⟩ = some (.int .i64 x.inst.a)
  c4 : w.cell? ⟨b, o + 4, none⟩ = some (.int .i64 x.inst.b)
  c5 : w.cell? ⟨b, o + 5, none⟩ = some (.int .i64 x.inst.imm)
  c6 : w.cell? ⟨b, o + 6, none⟩ = some (.string x.label)
  c7 : w.cell? ⟨b, o + 7, none⟩ = some (.int .u32 x.word)
  w0 : 0 ≤ x.word
  w1 : x.word ≤ 4294967295

/-- A slice value reads as a list of items, below block B. -/
def Items (w : World) (B : Nat) (A : Option Addr) (xs : List S.Item) : Prop :=
  0 < xs.length → ∃ b off, A = some ⟨b, off, none⟩ ∧ b < B ∧ ∀ i x, xs[i]? = some x → ItemAt w b (off + i * 8) x

theorem ItemAt.keep {w w' : World} {b o : Nat} {x : S.Item} (h : ItemAt w b o x) (hk : ∀ o, w'.cell? ⟨b, o, none⟩ = w.cell? ⟨b, o, none⟩) : ItemAt w' b o x :=
  ⟨(hk _).trans h.c0, (hk _).trans h.c1, (hk _).trans h.c2, (hk _).trans h.c3, (hk _).trans h.c4, (hk _).trans h.c5, (hk _).trans h.c6, (hk _).trans h.c7, h.w0, h.w1⟩
theorem Items.below {w w' : World} {B : Nat} {A : Option Addr} {xs : List S.Item} (h : Items w B A xs) (hb : Below B w w') : Items w' B A xs := fun hp => by
  obtain ⟨b, off, e, hbB, hc⟩ := h hp
  exact ⟨b, off, e, hbB, fun i x hx => (hc i x hx).keep fun o => hb.cell (p := ⟨b, o, none⟩) hbB⟩
theorem Items.words {w : World} {B : Nat} {A : Option Addr} {xs : List S.Item} (h : Items w B A xs) : ∀ x ∈ xs, 0 ≤ x.word ∧ x.word ≤ 4294967295 := fun x hx => by
  obtain ⟨i, hi, rfl⟩ := List.getElem_of_mem hx
  obtain ⟨b, off, e, hbB, hc⟩ := h (by omega)
  have := hc i _ (List.getElem?_eq_getElem hi)
  exact ⟨this.w0, this.w1⟩
theorem Items.more {w : World} {B B' : Nat} {A : Option Addr} {xs : List S.Item} (h : Items w B A xs) (hB : B ≤ B') : Items w B' A xs := fun hp => by
  obtain ⟨b, off, e, hbB, hc⟩ := h hp
  exact ⟨b, off, e, Nat.lt_of_lt_of_le hbB hB, hc⟩
theorem Items.at_ {w : World} {B : Nat} {A : Option Addr} {xs : List S.Item} (h : Items w B A xs) {k : Nat} (hk : k < xs.length) :
    ∃ b off x, A = some ⟨b, off, none⟩ ∧ b < B ∧ xs[k]? = some x ∧ ItemAt w b (off + k * 8) x := by
  obtain ⟨b, off, e, hbB, hc⟩ := h (by omega)
  exact ⟨b, off, xs[k], e, hbB, List.getElem?_eq_getElem hk, hc k _ (List.getElem?_eq_getElem hk)⟩

def itemCells (x : S.Item) : List Value := [.int .i64 x.kind, .int .i64 x.inst.op, .int .i64 x.inst.d, .int .i64 x.inst.a, .int .i64 x.inst.b, .int .i64 x.inst.imm, .string x.label, .int .u32 x.word]

theorem flat_item (L : List S.Item) (i : Nat) (x : S.Item) (h : L[i]? = some x) (j : Nat) (hj : j < 8) : (L.flatMap itemCells)[i * 8 + j]? = (itemCells x)[j]? := by
  induction L generalizing i with
  | nil => simp at h
  | cons q L ih =>
    cases i with
    | zero =>
      simp only [List.getElem?_cons_zero, Option.some.injEq] at h
      subst h
      rw [List.flatMap_cons, List.getElem?_append_left (by simp [itemCells]; omega)]
      simp
    | succ i =>
      have h1 := ih i (by simpa using h)
      have e1 : (i + 1) * 8 + j = (itemCells q).length + (i * 8 + j) := by simp [itemCells]; omega
      rw [List.flatMap_cons, e1, List.getElem?_append_right (by omega), Nat.add_sub_cancel_left]
      exact h1

theorem flat8_len (xs : List S.Item) : (xs.flatMap itemCells).length = xs.length * 8 := by
  induction xs with
  | nil => rfl
  | cons x r ih => rw [List.flatMap_cons, List.length_append, ih]; simp [itemCells]; omega
/-- Items read as a row of cells. -/
theorem Items.reads {w : World} {B : Nat} {A : Option Addr} {xs : List S.Item} (h : Items w B A xs) : Reads w B A (xs.flatMap itemCells) := fun hp => by
  rw [flat8_len] at hp
  obtain ⟨b, off, e, hB, hc⟩ := h (by omega)
  refine ⟨b, off, e, hB, fun i v hv => ?_⟩
  have hlt := (List.getElem?_eq_some_iff.1 hv).1
  rw [flat8_len] at hlt
  have hq : i / 8 < xs.length := by omega
  have hx : xs[i / 8]? = some xs[i / 8] := List.getElem?_eq_getElem hq
  have ei : i / 8 * 8 + i % 8 = i := by omega
  have h1 := flat_item xs (i / 8) _ hx (i % 8) (by omega)
  rw [ei, hv] at h1
  obtain ⟨h0, h1', h2, h3, h4, h5, h6, h7, _, _⟩ := hc (i / 8) _ hx
  have hr : i % 8 = 0 ∨ i % 8 = 1 ∨ i % 8 = 2 ∨ i % 8 = 3 ∨ i % 8 = 4 ∨ i % 8 = 5 ∨ i % 8 = 6 ∨ i % 8 = 7 := by omega
  have eo : off + i = off + i / 8 * 8 + i % 8 := by omega
  rw [eo]
  rcases hr with r | r | r | r | r | r | r | r
  all_goals
    rw [r] at h1 ⊢
    simp only [itemCells, List.getElem?_cons_zero, List.getElem?_cons_succ] at h1
    cases h1
    assumption
theorem cells_one (xs : List S.Item) : ∀ u ∈ xs.flatMap itemCells, u.oneCell' = true := by
  intro u hu
  obtain ⟨x, _, hx⟩ := List.mem_flatMap.1 hu
  simp only [itemCells, List.mem_cons, List.not_mem_nil, or_false] at hx
  rcases hx with rfl | rfl | rfl | rfl | rfl | rfl | rfl | rfl <;> rfl
/-- A row of the call's own reads as items. -/
theorem Items.of_own {w : World} {base : Nat} {e : TypeId} {A : Option Addr} {m c n : Nat} {xs : List S.Item} (h : w.ownsRow base e 8 (.slice A m c) n (xs.flatMap itemCells)) (hw : ∀ x ∈ xs, 0 ≤ x.word ∧ x.word ≤ 4294967295) : Items w w.heap.size A xs := fun hp => by
  have hl : (xs.flatMap itemCells).length = n * 8 := h.1
  rw [flat8_len] at hl
  obtain ⟨g, rfl, _, hg2, _, hg4, _⟩ := ownsRow_at h (by omega)
  refine ⟨g, 0, rfl, hg2, fun i x hx => ?_⟩
  have hi := (List.getElem?_eq_some_iff.1 hx).1
  have hc : ∀ j, j < 8 → w.cell? ⟨g, 0 + i * 8 + j, none⟩ = (itemCells x)[j]? := by
    intro j hj
    rw [Nat.zero_add, hg4 _ (by omega), flat_item xs i x hx j hj]
  obtain ⟨w0, w1⟩ := hw x (List.mem_of_getElem? hx)
  exact ⟨hc 0 (by omega), hc 1 (by omega), hc 2 (by omega), hc 3 (by omega), hc 4 (by omega), hc 5 (by omega), hc 6 (by omega), hc 7 (by omega), w0, w1⟩

theorem int_info : (Tryz.prog.info? 3).map (fun i => (i.zero, i.size, i.bytes)) = some (some (.int .i64 0), 1, 8) := by kernel_rfl

/-- A slice value reads as a list of ints, below block B. -/
def Ints (w : World) (B : Nat) (A : Option Addr) (xs : List Int) : Prop :=
  0 < xs.length → ∃ b off, A = some ⟨b, off, none⟩ ∧ b < B ∧ ∀ i x, xs[i]? = some x → w.cell? ⟨b, off + i, none⟩ = some (.int .i64 x)
theorem Ints.below {w w' : World} {B : Nat} {A : Option Addr} {xs : List Int} (h : Ints w B A xs) (hb : Below B w w') : Ints w' B A xs := fun hp => by
  obtain ⟨b, off, e, hbB, hc⟩ := h hp
  exact ⟨b, off, e, hbB, fun i x hx => (hb.cell (p := ⟨b, off + i, none⟩) hbB).trans (hc i x hx)⟩
theorem Ints.more {w : World} {B B' : Nat} {A : Option Addr} {xs : List Int} (h : Ints w B A xs) (hB : B ≤ B') : Ints w B' A xs := fun hp => by
  obtain ⟨b, off, e, hbB, hc⟩ := h hp
  exact ⟨b, off, e, Nat.lt_of_lt_of_le hbB hB, hc⟩
theorem Ints.at_ {w : World} {B : Nat} {A : Option Addr} {xs : List Int} (h : Ints w B A xs) {k : Nat} (hk : k < xs.length) :
    ∃ b off, A = some ⟨b, off, none⟩ ∧ b < B ∧ w.cell? ⟨b, off + k, none⟩ = some (.int .i64 (xs.getD k 0)) := by
  obtain ⟨b, off, e, hbB, hc⟩ := h (by omega)
  refine ⟨b, off, e, hbB, hc k _ ?_⟩
  simp [hk]
theorem Ints.two {w : World} {B : Nat} {A : Option Addr} {xs : List Int} (h : Ints w B A xs) (hp : 0 < xs.length) :
    ∃ b off, A = some ⟨b, off, none⟩ ∧ b < B ∧ ∀ i x, xs[i]? = some x → w.cell? ⟨b, off + i, none⟩ = some (.int .i64 x) := h hp
theorem Ints.of_own {w : World} {base : Nat} {e : TypeId} {A : Option Addr} {m c n : Nat} {xs : List Int} (h : w.ownsRow base e 1 (.slice A m c) n (xs.map (Value.int .i64))) : Ints w w.heap.size A xs := fun hp => by
  have hl : xs.length = n := by have := h.1; simpa using this
  obtain ⟨g, rfl, hg1, hg2, hg3, hg4, _⟩ := ownsRow_at h (by omega)
  refine ⟨g, 0, rfl, hg2, fun i x hx => ?_⟩
  have hi := (List.getElem?_eq_some_iff.1 hx).1
  have h1 := hg4 i (by omega)
  rw [Nat.zero_add, h1, List.getElem?_map, hx]; rfl

theorem item_info : (Tryz.prog.info? 152).map (fun i => (i.zero, i.size, i.bytes)) = some (some (.agg #[.int .i64 0, .int .i64 0, .int .i64 0, .int .i64 0, .int .i64 0, .int .i64 0, .string ByteArray.empty, .int .u32 0]), 8, 72) := by kernel_rfl


end Go.Proofs.YtlldagdhlfpihaaGreatDoor
end

section
set_option linter.unusedVariables false
set_option linter.unusedSimpArgs false
set_option linter.unusedSectionVars false
namespace Go.Proofs.YtlldagdhlfpihaaGreatDoor
namespace S

structure Obj where
  name : ByteArray
  items : List Item

/-- Is a label an object's own (does it begin with a dot)? -/
def ownB (s : ByteArray) : Bool := s.data.toList.head? == some 46
def owned (n s : ByteArray) : ByteArray := if ownB s = true then n ++ s else s
def ownItem (n : ByteArray) (x : Item) : Item := ⟨x.kind, x.inst, owned n x.label, x.word⟩
/-- The items of an object, own labels told wholly. -/
def itemsOf (o : Obj) : List Item := o.items.map (ownItem o.name)
def joined (os : List Obj) : List Item := os.flatMap itemsOf
/-- Do two objects have one name? -/
def DupN (os : List Obj) : Prop := ∃ i j : Nat, ∃ a b : Obj, j < i ∧ os[i]? = some a ∧ os[j]? = some b ∧ a.name = b.name
def badN (o : Obj) : Bool := o.name.data.toList.isEmpty || ownB o.name
/-- What the check of the names answers. -/
def NamesRes (os : List Obj) (r : Int) : Prop := (DupN os ∧ r = 14) ∨ (¬ DupN os ∧ (∃ o ∈ os, badN o = true) ∧ r = 2) ∨ (¬ DupN os ∧ (∀ o ∈ os, badN o = false) ∧ r = 0)
end S

theorem namesRes_fun {os : List S.Obj} {r t : Int} (h : S.NamesRes os r) (k : S.NamesRes os t) : r = t := by
  rcases h with ⟨h1, rfl⟩ | ⟨h1, ⟨o, ho, hb⟩, rfl⟩ | ⟨h1, h2, rfl⟩
  · rcases k with ⟨k1, rfl⟩ | ⟨k1, _⟩ | ⟨k1, _⟩
    · rfl
    · exact absurd h1 k1
    · exact absurd h1 k1
  · rcases k with ⟨k1, rfl⟩ | ⟨k1, _, rfl⟩ | ⟨k1, k2, rfl⟩
    · exact absurd k1 h1
    · rfl
    · rw [k2 o ho] at hb; cases hb
  · rcases k with ⟨k1, rfl⟩ | ⟨k1, ⟨o, ho, hb⟩, rfl⟩ | ⟨k1, k2, rfl⟩
    · exact absurd k1 h1
    · rw [h2 o ho] at hb; cases hb
    · rfl
theorem owned_size (n s : ByteArray) : (S.owned n s).size ≤ n.size + s.size := by
  unfold S.owned
  split
  · simp [ByteArray.size_append]
  · omega
end Go.Proofs.YtlldagdhlfpihaaGreatDoor
end

section
set_option linter.unusedVariables false
set_option linter.unusedSimpArgs false
set_option linter.unusedSectionVars false
namespace Go.Proofs.YtlldagdhlfpihaaGreatDoor
open Go.RowKit

mutual
/-- An expression stands at a place; what it holds lies below block B. -/
def ECell (w : World) (B b o : Nat) : S.BE → Prop
  | .mk op n name kids => w.cell? ⟨b, o, none⟩ = some (.int .i64 op) ∧ w.cell? ⟨b, o + 1, none⟩ = some (.int .i64 n) ∧ w.cell? ⟨b, o + 2, none⟩ = some (.string name) ∧ name.size ≤ maxLen ∧ kids.length ≤ maxLen ∧
    ∃ A c, w.cell? ⟨b, o + 3, none⟩ = some (.slice A kids.length c) ∧ (kids = [] ∨ ∃ b' off, A = some ⟨b', off, none⟩ ∧ b' < B ∧ EKids w B b' off kids)
def EKids (w : World) (B b o : Nat) : List S.BE → Prop
  | [] => True
  | e :: r => ECell w B b o e ∧ EKids w B b (o + 4) r
end
/-- A slice of expressions, below block B. -/
def EList (w : World) (B : Nat) (A : Option Addr) (l : List S.BE) : Prop := l = [] ∨ ∃ b off, A = some ⟨b, off, none⟩ ∧ b < B ∧ EKids w B b off l
/-- An expression as a value. -/
def EVal (w : World) (B : Nat) (e : S.BE) (v : Value) : Prop :=
  ∃ A c, v = .agg #[.int .i64 e.op, .int .i64 e.n, .string e.name, .slice A e.kids.length c] ∧ e.name.size ≤ maxLen ∧ e.kids.length ≤ maxLen ∧ EList w B A e.kids

mutual
theorem ECell.below {w w' : World} {B b o : Nat} (hb : Below B w w') (hlt : b < B) : ∀ {e : S.BE}, ECell w B b o e → ECell w' B b o e
  | .mk op n name kids, h => by
    rw [ECell] at h ⊢
    obtain ⟨h1, h2, h3, h4, h5, A, c, h6, h7⟩ := h
    refine ⟨(hb.cell (p := ⟨b, _, none⟩) hlt).trans h1, (hb.cell (p := ⟨b, _, none⟩) hlt).trans h2, (hb.cell (p := ⟨b, _, none⟩) hlt).trans h3, h4, h5, A, c, (hb.cell (p := ⟨b, _, none⟩) hlt).trans h6, ?_⟩
    rcases h7 with h7 | ⟨b', off, h8, h9, h10⟩
    · exact .inl h7
    · exact .inr ⟨b', off, h8, h9, EKids.below hb h9 h10⟩
theorem EKids.below {w w' : World} {B b o : Nat} (hb : Below B w w') (hlt : b < B) : ∀ {l : List S.BE}, EKids w B b o l → EKids w' B b o l
  | [], _ => by rw [EKids]; trivial
  | e :: r, h => by
    rw [EKids] at h ⊢
    exact ⟨ECell.below hb hlt h.1, EKids.below hb hlt h.2⟩
end
mutual
theorem ECell.more {w : World} {B B' b o : Nat} (hB : B ≤ B') : ∀ {e : S.BE}, ECell w B b o e → ECell w B' b o e
  | .mk op n name kids, h => by
    rw [ECell] at h ⊢
    obtain ⟨h1, h2, h3, h4, h5, A, c, h6, h7⟩ := h
    refine ⟨h1, h2, h3, h4, h5, A, c, h6, ?_⟩
    rcases h7 with h7 | ⟨b', off, h8, h9, h10⟩
    · exact .inl h7
    · exact .inr ⟨b', off, h8, Nat.lt_of_lt_of_le h9 hB, EKids.more hB h10⟩
theorem EKids.more {w : World} {B B' b o : Nat} (hB : B ≤ B') : ∀ {l : List S.BE}, EKids w B b o l → EKids w B' b o l
  | [], _ => by rw [EKids]; trivial
  | e :: r, h => by
    rw [EKids] at h ⊢
    exact ⟨ECell.more hB h.1, EKids.more hB h.2⟩
end
theorem EList.below {w w' : World} {B : Nat} {A : Option Addr} {l : List S.BE} (h : EList w B A l) (hb : Below B w w') : EList w' B A l := by
  rcases h with h | ⟨b, off, h1, h2, h3⟩
  · exact .inl h
  · exact .inr ⟨b, off, h1, h2, h3.below hb h2⟩
theorem EList.more {w : World} {B B' : Nat} {A : Option Addr} {l : List S.BE} (h : EList w B A l) (hB : B ≤ B') : EList w B' A l := by
  rcases h with h | ⟨b, off, h1, h2, h3⟩
  · exact .inl h
  · exact .inr ⟨b, off, h1, Nat.lt_of_lt_of_le h2 hB, h3.more hB⟩
theorem EVal.below {w w' : World} {B : Nat} {e : S.BE} {v : Value} (h : EVal w B e v) (hb : Below B w w') : EVal w' B e v := by
  obtain ⟨A, c, h1, h2, h3, h4⟩ := h
  exact ⟨A, c, h1, h2, h3, h4.below hb⟩
theorem EVal.more {w : World} {B B' : Nat} {e : S.BE} {v : Value} (h : EVal w B e v) (hB : B ≤ B') : EVal w B' e v := by
  obtain ⟨A, c, h1, h2, h3, h4⟩ := h
  exact ⟨A, c, h1, h2, h3, h4.more hB⟩
theorem EKids.at_ {w : World} {B b : Nat} : ∀ {l : List S.BE} {o k : Nat} {e : S.BE}, EKids w B b o l → l[k]? = some e → ECell w B b (o + k * 4) e
  | [], o, k, e, _, h => by simp at h
  | x :: r, o, 0, e, hk, h => by
    rw [EKids] at hk
    simp only [List.getElem?_cons_zero, Option.some.injEq] at h
    subst h
    simpa using hk.1
  | x :: r, o, k + 1, e, hk, h => by
    rw [EKids] at hk
    have := EKids.at_ hk.2 (k := k) (by simpa using h)
    have e1 : o + 4 + k * 4 = o + (k + 1) * 4 := by omega
    rw [e1] at this
    exact this
/-- One of a slice of expressions: its cells. -/
theorem EList.at_ {w : World} {B : Nat} {A : Option Addr} {l : List S.BE} (h : EList w B A l) {k : Nat} {e : S.BE} (hk : l[k]? = some e) :
    ∃ b off A' c', A = some ⟨b, off, none⟩ ∧ b < B ∧ w.cell? ⟨b, off + k * 4, none⟩ = some (.int .i64 e.op) ∧ w.cell? ⟨b, off + k * 4 + 1, none⟩ = some (.int .i64 e.n) ∧ w.cell? ⟨b, off + k * 4 + 2, none⟩ = some (.string e.name) ∧
      w.cell? ⟨b, off + k * 4 + 3, none⟩ = some (.slice A' e.kids.length c') ∧ e.name.size ≤ maxLen ∧ e.kids.length ≤ maxLen ∧ EList w B A' e.kids := by
  rcases h with h | ⟨b, off, h1, h2, h3⟩
  · subst h; simp at hk
  · have h4 := h3.at_ hk
    obtain ⟨op, n, name, kids⟩ := e
    rw [ECell] at h4
    obtain ⟨q1, q2, q3, q4, q5, A', c', q6, q7⟩ := h4
    exact ⟨b, off, A', c', h1, h2, q1, q2, q3, q6, q4, q5, q7⟩

mutual
/-- A statement stands at a place. -/
def SCell (w : World) (B b o : Nat) : S.BS → Prop
  | .mk op n name exprs regs body els => w.cell? ⟨b, o, none⟩ = some (.int .i64 op) ∧ w.cell? ⟨b, o + 1, none⟩ = some (.int .i64 n) ∧ w.cell? ⟨b, o + 2, none⟩ = some (.string name) ∧ name.size ≤ maxLen ∧ exprs.length ≤ maxLen ∧ regs.length ≤ maxLen ∧ body.length ≤ maxLen ∧ els.length ≤ maxLen ∧
    (∃ A c, w.cell? ⟨b, o + 3, none⟩ = some (.slice A exprs.length c) ∧ EList w B A exprs) ∧ (∃ A c, w.cell? ⟨b, o + 4, none⟩ = some (.slice A regs.length c) ∧ Ints w B A regs) ∧
    (∃ A c, w.cell? ⟨b, o + 5, none⟩ = some (.slice A body.length c) ∧ (body = [] ∨ ∃ b' off, A = some ⟨b', off, none⟩ ∧ b' < B ∧ SKids w B b' off body)) ∧
    (∃ A c, w.cell? ⟨b, o + 6, none⟩ = some (.slice A els.length c) ∧ (els = [] ∨ ∃ b' off, A = some ⟨b', off, none⟩ ∧ b' < B ∧ SKids w B b' off els))
def SKids (w : World) (B b o : Nat) : List S.BS → Prop
  | [] => True
  | s :: r => SCell w B b o s ∧ SKids w B b (o + 7) r
end
def SList (w : World) (B : Nat) (A : Option Addr) (l : List S.BS) : Prop := l = [] ∨ ∃ b off, A = some ⟨b, off, none⟩ ∧ b < B ∧ SKids w B b off l
mutual
theorem SCell.below {w w' : World} {B b o : Nat} (hb : Below B w w') (hlt : b < B) : ∀ {s : S.BS}, SCell w B b o s → SCell w' B b o s
  | .mk op n name exprs regs body els, h => by
    rw [SCell] at h ⊢
    obtain ⟨h1, h2, h3, h4, h5, h6, h7, h8, ⟨A1, c1, a1, a2⟩, ⟨A2, c2, b1, b2⟩, ⟨A3, c3, d1, d2⟩, ⟨A4, c4, e1, e2⟩⟩ := h
    refine ⟨(hb.cell (p := ⟨b, _, none⟩) hlt).trans h1, (hb.cell (p := ⟨b, _, none⟩) hlt).trans h2, (hb.cell (p := ⟨b, _, none⟩) hlt).trans h3, h4, h5, h6, h7, h8, ⟨A1, c1, (hb.cell (p := ⟨b, _, none⟩) hlt).trans a1, a2.below hb⟩,
      ⟨A2, c2, (hb.cell (p := ⟨b, _, none⟩) hlt).trans b1, b2.below hb⟩, ⟨A3, c3, (hb.cell (p := ⟨b, _, none⟩) hlt).trans d1, ?_⟩, ⟨A4, c4, (hb.cell (p := ⟨b, _, none⟩) hlt).trans e1, ?_⟩⟩
    · rcases d2 with d2 | ⟨b', off, q1, q2, q3⟩
      · exact .inl d2
      · exact .inr ⟨b', off, q1, q2, SKids.below hb q2 q3⟩
    · rcases e2 with e2 | ⟨b', off, q1, q2, q3⟩
      · exact .inl e2
      · exact .inr ⟨b', off, q1, q2, SKids.below hb q2 q3⟩
theorem SKids.below {w w' : World} {B b o : Nat} (hb : Below B w w') (hlt : b < B) : ∀ {l : List S.BS}, SKids w B b o l → SKids w' B b o l
  | [], _ => by rw [SKids]; trivial
  | e :: r, h => by
    rw [SKids] at h ⊢
    exact ⟨SCell.below hb hlt h.1, SKids.below hb hlt h.2⟩
end
mutual
theorem SCell.more {w : World} {B B' b o : Nat} (hB : B ≤ B') : ∀ {s : S.BS}, SCell w B b o s → SCell w B' b o s
  | .mk op n name exprs regs body els, h => by
    rw [SCell] at h ⊢
    obtain ⟨h1, h2, h3, h4, h5, h6, h7, h8, ⟨A1, c1, a1, a2⟩, ⟨A2, c2, b1, b2⟩, ⟨A3, c3, d1, d2⟩, ⟨A4, c4, e1, e2⟩⟩ := h
    refine ⟨h1, h2, h3, h4, h5, h6, h7, h8, ⟨A1, c1, a1, a2.more hB⟩, ⟨A2, c2, b1, b2.more hB⟩, ⟨A3, c3, d1, ?_⟩, ⟨A4, c4, e1, ?_⟩⟩
    · rcases d2 with d2 | ⟨b', off, q1, q2, q3⟩
      · exact .inl d2
      · exact .inr ⟨b', off, q1, Nat.lt_of_lt_of_le q2 hB, SKids.more hB q3⟩
    · rcases e2 with e2 | ⟨b', off, q1, q2, q3⟩
      · exact .inl e2
      · exact .inr ⟨b', off, q1, Nat.lt_of_lt_of_le q2 hB, SKids.more hB q3⟩
theorem SKids.more {w : World} {B B' b o : Nat} (hB : B ≤ B') : ∀ {l : List S.BS}, SKids w B b o l → SKids w B' b o l
  | [], _ => by rw [SKids]; trivial
  | e :: r, h => by
    rw [SKids] at h ⊢
    exact ⟨SCell.more hB h.1, SKids.more hB h.2⟩
end
theorem SList.below {w w' : World} {B : Nat} {A : Option Addr} {l : List S.BS} (h : SList w B A l) (hb : Below B w w') : SList w' B A l := by
  rcases h with h | ⟨b, off, h1, h2, h3⟩
  · exact .inl h
  · exact .inr ⟨b, off, h1, h2, h3.below hb h2⟩
theorem SList.more {w : World} {B B' : Nat} {A : Option Addr} {l : List S.BS} (h : SList w B A l) (hB : B ≤ B') : SList w B' A l := by
  rcases h with h | ⟨b, off, h1, h2, h3⟩
  · exact .inl h
  · exact .inr ⟨b, off, h1, Nat.lt_of_lt_of_le h2 hB, h3.more hB⟩
theorem SKids.at_ {w : World} {B b : Nat} : ∀ {l : List S.BS} {o k : Nat} {s : S.BS}, SKids w B b o l → l[k]? = some s → SCell w B b (o + k * 7) s
  | [], o, k, e, _, h => by simp at h
  | x :: r, o, 0, e, hk, h => by
    rw [SKids] at hk
    simp only [List.getElem?_cons_zero, Option.some.injEq] at h
    subst h
    simpa using hk.1
  | x :: r, o, k + 1, e, hk, h => by
    rw [SKids] at hk
    have := SKids.at_ hk.2 (k := k) (by simpa using h)
    have e1 : o + 7 + k * 7 = o + (k + 1) * 7 := by omega
    rw [e1] at this
    exact this
/-- What a statement holds, as a value's parts. -/
structure SPart (w : World) (B : Nat) (s : S.BS) (A1 A2 A3 A4 : Option Addr) : Prop where
  name : s.name.size ≤ maxLen
  l1 : s.exprs.length ≤ maxLen
  l2 : s.regs.length ≤ maxLen
  l3 : s.body.length ≤ maxLen
  l4 : s.els.length ≤ maxLen
  exprs : EList w B A1 s.exprs
  regs : Ints w B A2 s.regs
  body : SList w B A3 s.body
  els : SList w B A4 s.els
theorem SPart.below {w w' : World} {B : Nat} {s : S.BS} {A1 A2 A3 A4 : Option Addr} (h : SPart w B s A1 A2 A3 A4) (hb : Below B w w') : SPart w' B s A1 A2 A3 A4 :=
  ⟨h.name, h.l1, h.l2, h.l3, h.l4, h.exprs.below hb, h.regs.below hb, h.body.below hb, h.els.below hb⟩
theorem SPart.more {w : World} {B B' : Nat} {s : S.BS} {A1 A2 A3 A4 : Option Addr} (h : SPart w B s A1 A2 A3 A4) (hB : B ≤ B') : SPart w B' s A1 A2 A3 A4 :=
  ⟨h.name, h.l1, h.l2, h.l3, h.l4, h.exprs.more hB, h.regs.more hB, h.body.more hB, h.els.more hB⟩
theorem SList.at_ {w : World} {B : Nat} {A : Option Addr} {l : List S.BS} (h : SList w B A l) {k : Nat} {s : S.BS} (hk : l[k]? = some s) :
    ∃ b off A1 c1 A2 c2 A3 c3 A4 c4, A = some ⟨b, off, none⟩ ∧ b < B ∧ w.cell? ⟨b, off + k * 7, none⟩ = some (.int .i64 s.op) ∧ w.cell? ⟨b, off + k * 7 + 1, none⟩ = some (.int .i64 s.n) ∧ w.cell? ⟨b, off + k * 7 + 2, none⟩ = some (.string s.name) ∧
      w.cell? ⟨b, off + k * 7 + 3, none⟩ = some (.slice A1 s.exprs.length c1) ∧ w.cell? ⟨b, off + k * 7 + 4, none⟩ = some (.slice A2 s.regs.length c2) ∧ w.cell? ⟨b, off + k * 7 + 5, none⟩ = some (.slice A3 s.body.length c3) ∧
      w.cell? ⟨b, off + k * 7 + 6, none⟩ = some (.slice A4 s.els.length c4) ∧ SPart w B s A1 A2 A3 A4 := by
  rcases h with h | ⟨b, off, h1, h2, h3⟩
  · subst h; simp at hk
  · have h4 := h3.at_ hk
    obtain ⟨op, n, name, exprs, regs, body, els⟩ := s
    rw [SCell] at h4
    obtain ⟨q1, q2, q3, q4, q5, q6, q7, q8, ⟨A1, c1, a1, a2⟩, ⟨A2, c2, b1, b2⟩, ⟨A3, c3, d1, d2⟩, ⟨A4, c4, e1, e2⟩⟩ := h4
    exact ⟨b, off, A1, c1, A2, c2, A3, c3, A4, c4, h1, h2, q1, q2, q3, a1, b1, d1, e1, q4, q5, q6, q7, q8, a2, b2, d2, e2⟩

/-! Sizes, for recursion -/
mutual
def szE : S.BE → Nat
  | .mk _ _ _ kids => 1 + szEs kids
def szEs : List S.BE → Nat
  | [] => 0
  | e :: r => szE e + szEs r
end
theorem szE_mem : ∀ {l : List S.BE} {e : S.BE}, e ∈ l → szE e ≤ szEs l
  | x :: r, e, h => by
    rw [szEs]
    rcases List.mem_cons.1 h with rfl | h
    · omega
    · have := szE_mem h; omega
theorem szE_pos (e : S.BE) : szE e = 1 + szEs e.kids := by
  obtain ⟨op, n, name, kids⟩ := e
  rw [szE]; rfl
mutual
def szS : S.BS → Nat
  | .mk _ _ _ exprs _ body els => 1 + szEs exprs + szSs body + szSs els
def szSs : List S.BS → Nat
  | [] => 0
  | s :: r => szS s + szSs r
end
theorem szS_mem : ∀ {l : List S.BS} {s : S.BS}, s ∈ l → szS s ≤ szSs l
  | x :: r, e, h => by
    rw [szSs]
    rcases List.mem_cons.1 h with rfl | h
    · omega
    · have := szS_mem h; omega
theorem szS_pos (s : S.BS) : szS s = 1 + szEs s.exprs + szSs s.body + szSs s.els := by
  obtain ⟨op, n, name, exprs, regs, body, els⟩ := s
  rw [szS]; rfl

end Go.Proofs.YtlldagdhlfpihaaGreatDoor
end
