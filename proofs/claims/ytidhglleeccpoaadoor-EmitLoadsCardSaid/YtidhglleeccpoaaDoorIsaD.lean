/- AsmSpec, IsaD: joined.  isa.Encode and pennantref01.Encode at any instruction; the two functions word. -/
import Derived.Test.YtidhglleeccpoaaDoorSpec
import Derived.Test.YtidhglleeccpoaaDoorLay
section
set_option linter.unusedVariables false
set_option linter.unusedSimpArgs false
set_option linter.unusedSectionVars false
namespace Go.Proofs.YtidhglleeccpoaaDoor
namespace S

structure Item where
  kind : Int
  inst : Inst
  label : ByteArray
  word : Int

/-- The word of an instruction, 0 if it may not be. -/
def wordOf (x : Inst) : Int := if good x = true then enc x else 0

def size (x : Item) (form : Int) : Int :=
  if x.kind = 2 then 0 else if x.kind = 3 ∧ form = 3 then 4 else if x.kind = 3 then form else if x.kind = 4 then 2 * form - 1
  else if x.kind = 5 then 2 else if x.kind = 8 then x.word else 1

def regOk (n : Int) : Bool := decide (0 ≤ n ∧ n ≤ 31)

/-- May an item be? -/
def chkItem (x : Item) : Int :=
  if x.kind < 1 ∨ 8 < x.kind then 4
  else if x.kind = 1 ∧ chk x.inst ≠ 0 then 11
  else if x.kind = 3 ∧ (turned x.inst.op = 0 ∨ ¬ (regOk x.inst.a = true) ∨ ¬ (regOk x.inst.b = true)) then 11
  else if (x.kind = 4 ∨ x.kind = 5) ∧ ¬ (regOk x.inst.d = true) then 11
  else 0

def named (x : Item) : Bool := decide (x.kind = 3 ∨ x.kind = 4 ∨ x.kind = 5 ∨ x.kind = 7)

/-- The first error of items by themselves; 0: none. -/
def firstErr : List Item → Int
  | [] => 0
  | x :: r => if chkItem x ≠ 0 then chkItem x else firstErr r

/-- The first item at which a label stands, from one place on. -/
def standsFrom (xs : List Item) (lab : ByteArray) : Nat → Nat → Int
  | 0, _ => -1
  | f + 1, i => match xs[i]? with
    | none => -1
    | some x => if x.kind = 2 ∧ x.label = lab then i else standsFrom xs lab f (i + 1)
def stands (xs : List Item) (lab : ByteArray) : Int := standsFrom xs lab xs.length 0

def Dup (xs : List Item) : Prop := ∃ (i : Nat) (x : Item), xs[i]? = some x ∧ x.kind = 2 ∧ stands xs x.label ≠ i
def Miss (xs : List Item) : Prop := ∃ (i : Nat) (x : Item), xs[i]? = some x ∧ named x = true ∧ stands xs x.label < 0

def lui (to : Int) : Int := wordOf ⟨23, 25, 0, 0, to / 65536⟩
def ori (to : Int) : Int := wordOf ⟨17, 25, 25, 0, to % 65536⟩
/-- The words of an item of a form at an address; to: where its label stands. -/
def wordsOf (x : Item) (form at_ to : Int) : List Int :=
  if x.kind = 1 then [wordOf x.inst]
  else if x.kind = 3 ∧ form = 1 then [wordOf ⟨x.inst.op, 0, x.inst.a, x.inst.b, to - at_ - 1⟩]
  else if x.kind = 3 ∧ form = 2 then [wordOf ⟨turned x.inst.op, 0, x.inst.a, x.inst.b, 1⟩, wordOf ⟨32, 0, 0, 0, to - at_ - 2⟩]
  else if x.kind = 3 then [wordOf ⟨turned x.inst.op, 0, x.inst.a, x.inst.b, 3⟩, lui to, ori to, wordOf ⟨33, 0, 25, 0, 0⟩]
  else if x.kind = 4 ∧ form = 1 then [wordOf ⟨32, x.inst.d, 0, 0, to - at_ - 1⟩]
  else if x.kind = 4 then [lui to, ori to, wordOf ⟨33, x.inst.d, 25, 0, 0⟩]
  else if x.kind = 5 then [wordOf ⟨23, x.inst.d, 0, 0, (to + x.word) % 4294967296 / 65536⟩, wordOf ⟨17, x.inst.d, x.inst.d, 0, (to + x.word) % 4294967296 % 65536⟩]
  else if x.kind = 6 then [x.word]
  else if x.kind = 7 then [(4 * to + x.word) % 4294967296]
  else if x.kind = 8 then List.replicate x.word.toNat 0
  else []

def most26 : Int := 67108864

/-- What the checks ahead of the forms answer. -/
def CheckRes (xs : List Item) (base r : Int) : Prop :=
  ((base < 0 ∨ most26 < base) ∧ r = 2) ∨
  (0 ≤ base ∧ base ≤ most26 ∧ firstErr xs ≠ 0 ∧ r = firstErr xs) ∨
  (0 ≤ base ∧ base ≤ most26 ∧ firstErr xs = 0 ∧ Dup xs ∧ r = 14) ∨
  (0 ≤ base ∧ base ≤ most26 ∧ firstErr xs = 0 ∧ ¬ Dup xs ∧ Miss xs ∧ r = 12) ∨
  (0 ≤ base ∧ base ≤ most26 ∧ firstErr xs = 0 ∧ ¬ Dup xs ∧ ¬ Miss xs ∧ r = 0)

/-- How many words the item at a place has. -/
def sizeAt (xs : List Item) (F : List Int) (i : Nat) : Int :=
  match xs[i]? with
  | none => 0
  | some x => size x (F.getD i 0)
/-- The address of the item at a place. -/
def addr (xs : List Item) (F : List Int) (base : Int) : Nat → Int
  | 0 => base
  | i + 1 => addr xs F base i + sizeAt xs F i

/-- Forms that items may have on the way. -/
def FormOk (xs : List Item) (F : List Int) : Prop :=
  F.length = xs.length ∧ ∀ (i : Nat) (x : Item), xs[i]? = some x →
    (x.kind = 3 → 1 ≤ F.getD i 0 ∧ F.getD i 0 ≤ 3) ∧ (x.kind = 4 → 1 ≤ F.getD i 0 ∧ F.getD i 0 ≤ 2) ∧ (x.kind ≠ 3 → x.kind ≠ 4 → F.getD i 0 = 0)

/-- Does the form of an item fit? -/
def fit (xs : List Item) (F : List Int) (base : Int) (i : Nat) (x : Item) : Bool :=
  if (x.kind ≠ 3 ∧ x.kind ≠ 4) ∨ (x.kind = 3 ∧ F.getD i 0 = 3) ∨ (x.kind = 4 ∧ F.getD i 0 = 2) then true
  else if x.kind = 3 ∧ F.getD i 0 = 1 then
    decide (-32768 ≤ addr xs F base (stands xs x.label).toNat - addr xs F base (i + 1) ∧ addr xs F base (stands xs x.label).toNat - addr xs F base (i + 1) ≤ 32767)
  else decide (-1048576 ≤ addr xs F base (stands xs x.label).toNat - addr xs F base (i + 1) ∧ addr xs F base (stands xs x.label).toNat - addr xs F base (i + 1) ≤ 1048575)

end S

/-- The check that asm makes of a branch: of its turned operation. -/
theorem chk_turned (op a b : Int) : S.chk ⟨S.turned op, 0, a, b, 0⟩ = if S.turned op = 0 ∨ ¬ (S.regOk a = true) ∨ ¬ (S.regOk b = true) then 11 else 0 := by
  by_cases h : S.turned op = 0
  · simp only [h, true_or, if_true]
    have hf : S.form 0 = 0 := by decide
    simp [S.chk, S.good, hf]
  · have ht : 26 ≤ S.turned op ∧ S.turned op ≤ 31 := by
      revert h; unfold S.turned; grind
    have hf : S.form (S.turned op) = 4 := by
      unfold S.form; grind
    have hl : S.least (S.turned op) = -32768 ∧ S.most (S.turned op) = 32767 := by
      unfold S.least S.most; grind
    simp only [S.chk, S.good, hf, S.hasD, S.hasA, S.hasB, S.reg, S.regOk, hl.1, hl.2]
    simp [h]
    grind
theorem chk_jump (d : Int) : S.chk ⟨32, d, 0, 0, 0⟩ = if ¬ (S.regOk d = true) then 11 else 0 := by
  have hf : S.form 32 = 5 := by decide
  have hl : S.least 32 = -1048576 ∧ S.most 32 = 1048575 := by decide
  simp only [S.chk, S.good, hf, S.hasD, S.hasA, S.hasB, S.reg, S.regOk, hl.1, hl.2]
  simp
  grind

theorem stands_step {xs : List S.Item} {lab : ByteArray} {k : Nat} {x : S.Item} (hk : k < xs.length) (hx : xs[k]? = some x) :
    S.standsFrom xs lab (xs.length - k) k = if x.kind = 2 ∧ x.label = lab then (k : Int) else S.standsFrom xs lab (xs.length - (k + 1)) (k + 1) := by
  obtain ⟨f, hf⟩ : ∃ f, xs.length - k = f + 1 := ⟨xs.length - k - 1, by omega⟩
  have e : xs.length - (k + 1) = f := by omega
  rw [hf, e, S.standsFrom, hx]

theorem standsFrom_spec (xs : List S.Item) (lab : ByteArray) : ∀ (f i : Nat), i + f = xs.length →
    (S.standsFrom xs lab f i = -1 ∧ ∀ (j : Nat) (x : S.Item), i ≤ j → xs[j]? = some x → ¬ (x.kind = 2 ∧ x.label = lab)) ∨
    ∃ (j : Nat) (x : S.Item), S.standsFrom xs lab f i = j ∧ i ≤ j ∧ xs[j]? = some x ∧ x.kind = 2 ∧ x.label = lab ∧ ∀ (m : Nat) (y : S.Item), i ≤ m → m < j → xs[m]? = some y → ¬ (y.kind = 2 ∧ y.label = lab)
  | 0, i, h => by
    left
    refine ⟨rfl, fun j x hj hx => ?_⟩
    have := (List.getElem?_eq_some_iff.1 hx).1
    omega
  | f + 1, i, h => by
    have hi : i < xs.length := by omega
    have hx : xs[i]? = some xs[i] := List.getElem?_eq_getElem hi
    rw [S.standsFrom, hx]
    by_cases c : xs[i].kind = 2 ∧ xs[i].label = lab
    · right
      refine ⟨i, xs[i], by simp [c], Nat.le_refl _, hx, c.1, c.2, fun m y h1 h2 => by omega⟩
    · simp only [c, if_false]
      rcases standsFrom_spec xs lab f (i + 1) (by omega) with ⟨h1, h2⟩ | ⟨j, x, h1, h2, h3, h4, h5, h6⟩
      · left
        refine ⟨h1, fun j x hj hjx => ?_⟩
        by_cases e : j = i
        · subst e; rw [hx] at hjx; cases hjx; exact c
        · exact h2 j x (by omega) hjx
      · right
        refine ⟨j, x, h1, by omega, h3, h4, h5, fun m y hm hmj hy => ?_⟩
        by_cases e : m = i
        · subst e; rw [hx] at hy; cases hy; exact c
        · exact h6 m y (by omega) hmj hy
theorem stands_spec (xs : List S.Item) (lab : ByteArray) :
    (S.stands xs lab = -1 ∧ ∀ (j : Nat) (x : S.Item), xs[j]? = some x → ¬ (x.kind = 2 ∧ x.label = lab)) ∨
    ∃ (j : Nat) (x : S.Item), S.stands xs lab = j ∧ xs[j]? = some x ∧ x.kind = 2 ∧ x.label = lab ∧ ∀ (m : Nat) (y : S.Item), m < j → xs[m]? = some y → ¬ (y.kind = 2 ∧ y.label = lab) := by
  rcases standsFrom_spec xs lab xs.length 0 (by omega) with ⟨h1, h2⟩ | ⟨j, x, h1, _, h3, h4, h5, h6⟩
  · exact .inl ⟨h1, fun j x hx => h2 j x (Nat.zero_le _) hx⟩
  · exact .inr ⟨j, x, h1, h3, h4, h5, fun m y hm hy => h6 m y (Nat.zero_le _) hm hy⟩

theorem sizeAt_bd {xs : List S.Item} {F : List Int} (hF : S.FormOk xs F) (hw : ∀ x ∈ xs, 0 ≤ x.word ∧ x.word ≤ 4294967295) (i : Nat) : 0 ≤ S.sizeAt xs F i ∧ S.sizeAt xs F i ≤ 4294967295 := by
  unfold S.sizeAt
  split
  · omega
  · rename_i x hx
    obtain ⟨h3, h4, _⟩ := hF.2 i x hx
    obtain ⟨h5, h6⟩ := hw x (List.mem_of_getElem? hx)
    unfold S.size
    grind
theorem addr_bd {xs : List S.Item} {F : List Int} {base : Int} (hF : S.FormOk xs F) (hw : ∀ x ∈ xs, 0 ≤ x.word ∧ x.word ≤ 4294967295) : ∀ i : Nat, base ≤ S.addr xs F base i ∧ S.addr xs F base i ≤ base + i * 4294967295
  | 0 => by simp [S.addr]
  | i + 1 => by
    obtain ⟨h1, h2⟩ := addr_bd hF hw (base := base) i
    obtain ⟨h3, h4⟩ := sizeAt_bd hF hw i
    simp only [S.addr]
    omega

end Go.Proofs.YtidhglleeccpoaaDoor
end

section
set_option linter.unusedVariables false
set_option linter.unusedSimpArgs false
set_option linter.unusedSectionVars false
namespace Go.Proofs.YtidhglleeccpoaaDoor
open Go.RowKit

theorem chk_bad {x : S.Inst} (h : S.good x = false) : S.chk x = 11 := by simp [S.chk, h]
theorem wordOf_bad {x : S.Inst} (h : S.good x = false) : S.wordOf x = 0 := by simp [S.wordOf, h]
theorem chk_good {x : S.Inst} (h : S.good x = true) : S.chk x = 0 := by simp [S.chk, h]
theorem wordOf_good {x : S.Inst} (h : S.good x = true) : S.wordOf x = S.enc x := by simp [S.wordOf, h]

set_option maxHeartbeats 400000 in
theorem isa_Encode_any (op d a b imm : Int) (w : World) :
    Calls Tryd.prog 64 #[.agg #[.int .i64 op, .int .i64 d, .int .i64 a, .int .i64 b, .int .i64 imm]] w
      fun e w' => e = .returned (.tuple #[.int .u32 (S.wordOf ⟨op, d, a, b, imm⟩), .int .i64 (S.chk ⟨op, d, a, b, imm⟩)]) ∧ Below w.heap.size w w' := by
  cases hg : S.good ⟨op, d, a, b, imm⟩
  · have hc := chk_bad hg
    have hw := wordOf_bad hg
    rw [hw]
    clear hg hw
    go_enter Tryd.func64, Tryd.ntmps64
    go_wp2_with (go_at_call 62; refine (isa_Check _ _ _ _ _ _).mono ?_; rintro e w' ⟨rfl, hb⟩)
    go_ret2
    exact ⟨by simp [hc], ((Below.refl _ _).alloc (Nat.le_refl _) _).trans (hb.mono (by simp))⟩
  · rw [chk_good hg, wordOf_good hg]
    exact isa_Encode op d a b imm w hg

theorem asm_word (op d a b imm : Int) (w : World) :
    Calls Tryd.prog 49 #[.agg #[.int .i64 op, .int .i64 d, .int .i64 a, .int .i64 b, .int .i64 imm]] w
      fun e w' => e = .returned (.int .u32 (S.wordOf ⟨op, d, a, b, imm⟩)) ∧ Below w.heap.size w w' := by
  go_enter Tryd.func49, Tryd.ntmps49
  go_wp2_with (go_at_call 64; refine (isa_Encode_any _ _ _ _ _ _).mono ?_; rintro e w' ⟨rfl, hb⟩)
  go_ret
  exact ⟨rfl, ((Below.refl _ _).alloc (Nat.le_refl _) _).trans (hb.mono (by simp))⟩

end Go.Proofs.YtidhglleeccpoaaDoor
end
