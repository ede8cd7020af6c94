/- Plain mathematics of layer 4 (objects put together). No program in sight. -/
import Derived.Test.YtbgdomnalimjnaaAsmSpec
set_option linter.unusedVariables false
set_option linter.unusedSimpArgs false
set_option linter.unusedSectionVars false
namespace Go.Proofs.Ytbgdomnalimjnaa
namespace S

structure Obj where
  name : ByteArray
  items : List Item

/-- Is a label an object's own (does it begin with a dot)? -/
def ownB (s : ByteArray) : Bool := s.data.toList.head? == some 46
def owned (n s : ByteArray) : ByteArray := if ownB s = true then n ++ s else s
def ownItem (n : ByteArray) (x : Item) : Item := ⟨x.kind, x.inst, owned n x.label, x.word⟩
/-- The items of an object, own labels told wholly. -/
def itemsOf (o : Obj) : List Item := o.items.map (ownItem o.name)
def joined (os : List Obj) : List Item := os.flatMap itemsOf
/-- Do two objects have one name? -/
def DupN (os : List Obj) : Prop := ∃ i j : Nat, ∃ a b : Obj, j < i ∧ os[i]? = some a ∧ os[j]? = some b ∧ a.name = b.name
def badN (o : Obj) : Bool := o.name.data.toList.isEmpty || ownB o.name
/-- What the check of the names answers. -/
def NamesRes (os : List Obj) (r : Int) : Prop := (DupN os ∧ r = 14) ∨ (¬ DupN os ∧ (∃ o ∈ os, badN o = true) ∧ r = 2) ∨ (¬ DupN os ∧ (∀ o ∈ os, badN o = false) ∧ r = 0)
/-- How many items there are, labels left out. -/
def countI : List Item → Int
  | [] => 0
  | x :: r => (if x.kind = 2 then 0 else 1) + countI r
def countO : List Obj → Int
  | [] => 0
  | o :: r => countI o.items + countO r
/-- The first place of a label. -/
def findP : List (ByteArray × Int) → ByteArray → Option Int
  | [], _ => none
  | p :: r, s => if p.1 = s then some p.2 else findP r s

end S

theorem namesRes_fun {os : List S.Obj} {r t : Int} (h : S.NamesRes os r) (k : S.NamesRes os t) : r = t := by
  rcases h with ⟨h1, rfl⟩ | ⟨h1, ⟨o, ho, hb⟩, rfl⟩ | ⟨h1, h2, rfl⟩
  · rcases k with ⟨k1, rfl⟩ | ⟨k1, _⟩ | ⟨k1, _⟩
    · rfl
    · exact absurd h1 k1
    · exact absurd h1 k1
  · rcases k with ⟨k1, rfl⟩ | ⟨k1, _, rfl⟩ | ⟨k1, k2, rfl⟩
    · exact absurd k1 h1
    · rfl
    · rw [k2 o ho] at hb; cases hb
  · rcases k with ⟨k1, rfl⟩ | ⟨k1, ⟨o, ho, hb⟩, rfl⟩ | ⟨k1, k2, rfl⟩
    · exact absurd k1 h1
    · rw [h2 o ho] at hb; cases hb
    · rfl
theorem owned_size (n s : ByteArray) : (S.owned n s).size ≤ n.size + s.size := by
  unfold S.owned
  split
  · simp [ByteArray.size_append]
  · omega
theorem countI_append (a b : List S.Item) : S.countI (a ++ b) = S.countI a + S.countI b := by
  induction a with
  | nil => simp [S.countI]
  | cons x r ih => simp only [List.cons_append, S.countI, ih]; omega
theorem countO_append (a b : List S.Obj) : S.countO (a ++ b) = S.countO a + S.countO b := by
  induction a with
  | nil => simp [S.countO]
  | cons x r ih => simp only [List.cons_append, S.countO, ih]; omega
theorem countI_bd (a : List S.Item) : 0 ≤ S.countI a ∧ S.countI a ≤ a.length := by
  induction a with
  | nil => simp [S.countI]
  | cons x r ih =>
    simp only [S.countI, List.length_cons]
    split <;> omega

end Go.Proofs.Ytbgdomnalimjnaa
