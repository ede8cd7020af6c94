/- ESpec, EMak: joined.  The maker of items: walks of its methods. -/
import Derived.Test.YtidhglleeccpoaaDoorIsaD
import Derived.Test.YtidhglleeccpoaaDoorITxt
import Derived.Test.YtidhglleeccpoaaDoorAsmH
import Derived.Lib.AppendIntMem
section
set_option linter.unusedVariables false
set_option linter.unusedSimpArgs false
set_option linter.unusedSectionVars false
namespace Go.Proofs.YtidhglleeccpoaaDoor
namespace S

structure VInst where
  op : Int
  d : Int
  a : Int
  b : Int
  imm : Int
  label : Int
  uses : List Int
  map : List Int
structure VFunc where
  fn : Int
  regs : Int
  slots : Int
  need : Int
  params : Int
  rest : Bool
  insts : List VInst

/-- How often a label stands. -/
def vstands (l : List VInst) (lab : Int) : Int := ((l.filter fun i => decide (i.op = 65 ∧ i.label = lab)).length : Nat)
def regOf (regs r : Int) : Bool := decide (0 ≤ r ∧ r < regs)
/-- Is it one of the machine's, but for its registers? -/
def vplain (i : VInst) : Bool := decide (1 ≤ i.op ∧ i.op ≤ 25) && good ⟨i.op, 0, 0, 0, i.imm⟩
def vform (i : VInst) : Bool := vplain i || decide ((26 ≤ i.op ∧ i.op ≤ 31) ∨ (64 ≤ i.op ∧ i.op ≤ 72))
def vgoes (i : VInst) : Bool := decide ((26 ≤ i.op ∧ i.op ≤ 31) ∨ i.op = 66 ∨ i.op = 65)
/-- May an instruction of virtual code be? -/
def vinst (regs : Int) (l : List VInst) (i : VInst) : Bool :=
  vform i && (!vgoes i || decide (vstands l i.label = 1)) && i.uses.all (regOf regs) && regOf regs i.a && regOf regs i.b && (regOf regs i.d || decide (i.op = 67 ∧ i.d < 0))
def vlast (l : List VInst) : Bool := match l.getLast? with
  | none => false
  | some i => decide (i.op = 66 ∨ i.op = 68 ∨ i.op = 72)
/-- What isel.Check answers. -/
def vchk (regs need slots params : Int) (l : List VInst) : Int :=
  if decide (32 ≤ regs ∧ 0 ≤ need ∧ 0 ≤ slots ∧ 0 ≤ params) && l.all (vinst regs l) && vlast l then 0 else 2

/-- Rising, each from 0 to one less than there are. -/
def rising : List Int → Bool
  | [] => true
  | [_] => true
  | x :: y :: r => decide (x < y) && rising (y :: r)
def slotOk (slots s : Int) : Bool := decide (0 ≤ s ∧ s < slots)
def moves (i : VInst) : Bool := decide (i.op = 73 ∨ i.op = 74)
def einst (slots : Int) (i : VInst) : Bool :=
  decide (i.d ≤ 31 ∧ i.a ≤ 31 ∧ i.b ≤ 31) && i.uses.all (fun r => decide (r ≤ 31)) && i.map.all (slotOk slots) && rising i.map && (!moves i || slotOk slots i.imm)
def moved (i : VInst) : VInst := if moves i = true then { i with op := 64 } else i
/-- What emit.Check answers. -/
def echk (f : VFunc) : Int :=
  if decide (0 ≤ f.slots ∧ f.slots ≤ 16777216 ∧ f.need ≤ 16777216 ∧ f.params ≤ 16777216 ∧ ¬(f.rest = true ∧ f.params < 1) ∧ 0 ≤ f.fn) && f.insts.all (einst f.slots) then
    vchk f.regs f.need f.slots f.params (f.insts.map moved) else 2

/-! Items -/
def lab (pre : List UInt8) (n : Int) : ByteArray := ⟨(pre ++ itoa n).toArray⟩
def noLab : ByteArray := ⟨#[]⟩
def rt (n : Int) : ByteArray := lab [114, 116] n
def own (n : Int) : ByteArray := lab [46, 108] n
def outer (n : Int) : ByteArray := lab [102] n
def inner (n : Int) : ByteArray := lab [107] n
def goLab : ByteArray := ⟨#[46, 103, 111]⟩
def moreLab : ByteArray := ⟨#[109, 111, 114, 101]⟩
def iInst (op d a b imm : Int) : Item := ⟨1, ⟨op, d, a, b, imm⟩, noLab, 0⟩
def iLabel (s : ByteArray) : Item := ⟨2, ⟨0, 0, 0, 0, 0⟩, s, 0⟩
def iJump (d : Int) (s : ByteArray) : Item := ⟨4, ⟨0, d, 0, 0, 0⟩, s, 0⟩
def iBranch (op a b : Int) (s : ByteArray) : Item := ⟨3, ⟨op, 0, a, b, 0⟩, s, 0⟩
def iWord (w : Int) : Item := ⟨6, ⟨0, 0, 0, 0, 0⟩, noLab, w⟩
def iAddr (d : Int) (s : ByteArray) (w : Int) : Item := ⟨5, ⟨0, d, 0, 0, 0⟩, s, w⟩

/-- A word to a register. -/
def eload (d w : Int) : List Item :=
  if w < 32768 then [iInst 15 d 0 0 w] else if 4294934528 ≤ w then [iInst 15 d 0 0 (w - 4294967296)]
  else if w % 65536 = 0 then [iInst 23 d 0 0 (w / 65536)] else [iInst 23 d 0 0 (w / 65536), iInst 17 d d 0 (w % 65536)]
def u32 (n : Int) : Int := n % 4294967296
/-- A frame map's words: how many, and each: which of its 32 slots live. -/
def mapLen (l : List Int) : Nat := match l.getLast? with
  | none => 0
  | some s => (s / 32 + 1).toNat
def mapBit (l : List Int) (k : Int) : Int := if k ∈ l then 1 else 0
/-- The word's bits from the highest of k on. -/
def mapW (l : List Int) (base : Int) : Nat → Int
  | 0 => 0
  | k + 1 => 2 * mapW l base k + mapBit l (base + 31 - k)
def eframe (l : List Int) : List Item := iWord ((mapLen l : Nat) : Int) :: (List.range (mapLen l)).map fun (i : Nat) => iWord (mapW l (32 * (i : Int)) 32)
def etail (n : Int) : List Item := if 0 ≤ n then [iJump 0 (inner n)] else [iInst 20 25 1 0 2, iInst 24 25 25 0 1, iInst 20 25 25 0 2, iInst 33 0 25 0 0]
def eslot (n : Int) : List Item × Int × Int := if n < 1024 then ([], 0, 32 + n) else ([iAddr 25 moreLab (u32 (n - 1024))], 25, 0)
/-- The items of an instruction. -/
def eitems (words : List Int) (i : VInst) : List Item :=
  if 26 ≤ i.op ∧ i.op ≤ 31 then [iBranch i.op i.a i.b (own i.label)]
  else if i.op = 64 then (if i.d = i.a then [] else [iInst 15 i.d i.a 0 0])
  else if i.op = 65 then [iLabel (own i.label)]
  else if i.op = 66 then [iJump 0 (own i.label)]
  else if i.op = 67 then iJump 31 (rt i.imm) :: eframe i.map
  else if i.op = 68 then etail i.imm
  else if i.op = 69 then eload i.d (u32 i.imm)
  else if i.op = 70 then [iAddr i.d (outer i.imm) 0, iInst 19 i.d i.d 0 2]
  else if i.op = 71 then eload i.d (words.getD i.imm.toNat 0)
  else if i.op = 72 then [iJump 0 (rt i.imm)]
  else if i.op = 73 then (eslot i.imm).1 ++ [iInst 24 i.d (eslot i.imm).2.1 0 (eslot i.imm).2.2]
  else if i.op = 74 then (eslot i.imm).1 ++ [iInst 25 0 (eslot i.imm).2.1 i.a (eslot i.imm).2.2]
  else [iInst i.op i.d i.a i.b i.imm]
/-- What stands ahead of a function's instructions. -/
def eentry (f : VFunc) : List Item :=
  let fixed := if f.rest = true then f.params - 1 else f.params
  let op := if f.rest = true then 28 else 27
  [iLabel (outer f.fn)] ++ eload 3 (u32 fixed) ++ [iBranch op 2 3 (rt 103), iLabel (inner f.fn)] ++
    (if f.rest = true then eload 3 (u32 fixed) ++ [iJump 31 (rt 101)]
     else if 0 < f.need then eload 3 (u32 f.need) ++ [iInst 1 3 26 3 0, iBranch 31 27 3 goLab] ++ eload 3 (u32 f.need) ++ [iJump 31 (rt 100), iLabel goLab]
     else [])
def dataOk (words : List Int) (i : VInst) : Bool := decide (¬(i.op = 71 ∧ (i.imm < 0 ∨ (words.length : Int) ≤ i.imm)))
/-- What emit.Emit answers: the name, the items, the error. -/
def emitE (f : VFunc) (words : List Int) : Int := if echk f = 0 ∧ f.insts.all (dataOk words) = true then 0 else 2
def emitName (f : VFunc) (words : List Int) : ByteArray := if emitE f words = 0 then lab [102, 117, 110] f.fn else noLab
def emitItems (f : VFunc) (words : List Int) : List Item := if emitE f words = 0 then eentry f ++ f.insts.flatMap (eitems words) else []
end S

end Go.Proofs.YtidhglleeccpoaaDoor
end

section
set_option linter.unusedVariables false
set_option linter.unusedSimpArgs false
set_option linter.unusedSectionVars false
namespace Go.Proofs.YtidhglleeccpoaaDoor
open Go.RowKit

/-- A maker at block mb, made by the call (from base on), holding items; the words' slice stands beside. -/
def MkAt (base mb : Nat) (wv : Value) (xs : List S.Item) (w : World) : Prop :=
  base ≤ mb ∧ ∃ v, w.heap[mb]? = some (.cells #[v, wv] 54 (0, 0)) ∧ w.ownsRow base 39 8 v xs.length (xs.flatMap itemCells)
theorem MkAt.lt {base mb : Nat} {wv : Value} {xs : List S.Item} {w : World} (h : MkAt base mb wv xs w) : mb < w.heap.size := by
  obtain ⟨_, v, hb, _⟩ := h
  rcases Nat.lt_or_ge mb w.heap.size with h' | h'
  · exact h'
  · simp [Array.getElem?_eq_none h'] at hb
theorem MkAt.keep {base mb : Nat} {wv : Value} {xs : List S.Item} {w w' : World} (h : MkAt base mb wv xs w) (hb : Below w.heap.size w w') : MkAt base mb wv xs w' := by
  have hlt := h.lt
  obtain ⟨h1, v, h2, h3⟩ := h
  exact ⟨h1, v, (hb.block mb hlt).trans h2, ownsRow_below h3 hb⟩
theorem own_ne {w : World} {B : Nat} {e T : TypeId} {size : Nat} {v : Value} {n : Nat} {xs : List Value} {b : Nat} {cs : Array Value} {fr : Nat × Nat} (hown : w.ownsRow B e size v n xs) (hb : w.heap[b]? = some (.cells cs T fr)) (hTe : T ≠ e) : v.ownBlock ≠ some b := by
  rcases hown.2 with ⟨rfl, _⟩ | ⟨g, cap, cur, rfl, _, hg, _⟩
  · simp [Value.ownBlock]
  · intro h
    simp only [Value.ownBlock, Option.some.injEq] at h
    subst h
    rw [hg] at hb
    simp only [Option.some.injEq, Obj.cells.injEq] at hb
    exact hTe hb.2.1.symm

set_option maxRecDepth 100000 in
set_option maxHeartbeats 1000000 in
/-- Items behind a maker's; rows of other kinds stay. -/
def KeepR (w w' : World) : Prop := ∀ (k : Nat) (r : Array Value) (T : TypeId) (o : Nat × Nat), w.heap[k]? = some (.cells r T o) → T ≠ 39 → T ≠ 54 → w'.heap[k]? = some (.cells r T o)
structure BK (base : Nat) (w w' : World) : Prop where
  below : Below base w w'
  keep : KeepR w w'
theorem BK.size {base : Nat} {w w' : World} (h : BK base w w') : w.heap.size ≤ w'.heap.size := h.below.size
theorem BK.trans {base : Nat} {w w' w2 : World} (h : BK base w w') (h2 : BK base w' w2) : BK base w w2 := ⟨h.below.trans h2.below, fun k r T o hk h3 h4 => h2.keep k r T o (h.keep k r T o hk h3 h4) h3 h4⟩
theorem BK.refl (base : Nat) (w : World) : BK base w w := ⟨Below.refl _ _, fun _ _ _ _ hk _ _ => hk⟩
theorem BK.of {base : Nat} {w w' : World} (h : Below w.heap.size w w') (hb : base ≤ w.heap.size) : BK base w w' := ⟨h.mono hb, fun k r T o hk _ _ => by
  rcases Nat.lt_or_ge k w.heap.size with h' | h'
  · exact (h.block k h').trans hk
  · simp [Array.getElem?_eq_none h'] at hk⟩
theorem mk_put (base mb : Nat) (wv : Value) (xs ys : List S.Item) (A : Option Addr) (c : Nat) (w : World) (h : MkAt base mb wv xs w) (hbw : base ≤ w.heap.size) (hy : Items w w.heap.size A ys) (hA : A = none → ys.length = 0) (hl : xs.length + ys.length ≤ 1000000000) :
    Calls Tryd.prog 39 #[.pointer (some ⟨mb, 0, none⟩), .slice A ys.length c] w fun e w' => e = .returned (.tuple #[]) ∧ MkAt base mb wv (xs ++ ys) w' ∧ BK base w w' := by
  have hlt := h.lt
  obtain ⟨hB, v, hbk, hown⟩ := h
  have hkeep := Lib.hid (fun (k : Nat) (r : Array Value) (T : TypeId) (o : Nat × Nat) (hk : w.heap[k]? = some (.cells r T o)) (hT1 : T ≠ 39) (hT2 : T ≠ 54) => (show k < w.heap.size ∧ k ≠ mb ∧ v.ownBlock ≠ some k from ⟨by
    rcases Nat.lt_or_ge k w.heap.size with h' | h'
    · exact h'
    · simp [Array.getElem?_eq_none h'] at hk, by
    rintro rfl
    rw [hbk] at hk
    simp only [Option.some.injEq, Obj.cells.injEq] at hk
    exact hT2 hk.2.1.symm, own_ne hown hk hT1⟩))
  have hne := own_ne hown hbk (by decide)
  have c0 : w.cell? ⟨mb, 0, none⟩ = some v := by rw [Lib.cell_of_heap hbk]; rfl
  have Hown := Lib.hid hown
  have Hy := Lib.hid hy.reads
  have HA := Lib.hid hA
  clear hy hA
  go_enter Tryd.func39, Tryd.ntmps39
  go_wp2_with (at_builtin; refine wpList_appendsN rfl (.tmp 8) (.tmp 9) _ rfl base 39 item_info Tryd.underlying29 rfl (by decide) _ _ _ rfl Hown.out w.heap.size A ys.length c _ rfl (flat8_len ys) HA.out Hy.out (cells_one ys) (by simp only [maxLen]; omega) (by omega) hbw ?_)
  intro v' w2 ho2 hg2 hb2 _
  have hb3 : w2.heap[mb]? = some (.cells #[v, wv] 54 (0, 0)) := (hg2.block mb hlt (fun e => hne e.symm)).trans hbk
  have f0 : w2.frozen? ⟨mb, 0, none⟩ = false := Lib.frozen_of_heap hb3 0
  have d0 : w2.cell? ⟨mb, 0, none⟩ = some v := by rw [Lib.cell_of_heap hb3]; rfl
  have Hb3 := Lib.hid hb3
  have Ho2 := Lib.hid ho2
  have Hb2 := Lib.hid hb2
  have Hg2 := Lib.hid hg2
  obtain ⟨A', c', hv'⟩ := ownsRow_form ho2
  subst hv'
  clear hb3 ho2 hb2 hg2 hbk hown Hown Hy HA c0
  go_wp2_with fail
  go_end0
  refine ⟨rfl, ⟨hB, .slice A' (xs.length + ys.length) c', ?_, ?_⟩, Hb2.out.setCell (p := ⟨mb, 0, none⟩) hB _, fun k r T o hk hT1 hT2 => ?_⟩
  · rw [setCell_eq_setRow _ _ _ _ _ _ _ Hb3.out]
    exact setRow_heap w2 mb _ _ _ _ Hb3.out
  · have hn2 := own_ne Ho2.out Hb3.out (by decide)
    rw [List.length_append, List.flatMap_append]
    exact Ho2.out.kept (row := some mb) ⟨rfl, rfl, rfl, by simp [World.setCell], fun k _ hk => Below.heap_setCell _ _ _ _ (fun e => hk (by simp [e]))⟩ (Or.inr hn2)
  · obtain ⟨k1, k2, k3⟩ := hkeep.out k r T o hk hT1 hT2
    rw [Below.heap_setCell _ _ _ _ k2]
    exact (Hg2.out.block k k1 (fun e => k3 e.symm)).trans hk

theorem items_new (w : World) (x : S.Item) (h0 : 0 ≤ x.word) (h1 : x.word ≤ 4294967295) : Items (w.alloc (.cells (itemCells x).toArray 39)) (w.alloc (.cells (itemCells x).toArray 39)).heap.size (some ⟨w.heap.size, 0, none⟩) [x] := fun _ => by
  refine ⟨w.heap.size, 0, rfl, by simp, fun i y hy => ?_⟩
  have hi := (List.getElem?_eq_some_iff.1 hy).1
  have hi0 : i = 0 := by simpa using hi
  subst hi0
  simp only [List.getElem?_cons_zero, Option.some.injEq] at hy
  subst hy
  have hc := fun j => cell_row_new w (itemCells x).toArray 39 j
  exact ⟨hc 0, hc 1, hc 2, hc 3, hc 4, hc 5, hc 6, hc 7, h0, h1⟩

/-- One item, given in a new block, behind a maker's. -/
theorem mk_one (base mb : Nat) (wv : Value) (xs : List S.Item) (x : S.Item) (w : World) (h : MkAt base mb wv xs w) (hbw : base ≤ w.heap.size) (hl : xs.length ≤ 900000000) (h0 : 0 ≤ x.word) (h1 : x.word ≤ 4294967295) :
    Calls Tryd.prog 39 #[.pointer (some ⟨mb, 0, none⟩), .slice (some ⟨w.heap.size, 0, none⟩) 1 1] (w.alloc (.cells (itemCells x).toArray 39)) fun e w' => e = .returned (.tuple #[]) ∧ MkAt base mb wv (xs ++ [x]) w' ∧ BK base w w' := by
  have hb := (Below.refl w.heap.size w).alloc (Nat.le_refl _) (.cells (itemCells x).toArray 39)
  refine (mk_put base mb wv xs [x] (some ⟨w.heap.size, 0, none⟩) 1 _ (h.keep hb) (by simp; omega) (items_new w x h0 h1) (fun e => by cases e) (by simp; omega)).mono ?_
  rintro e w' ⟨rfl, h2, h3⟩
  exact ⟨rfl, h2, (BK.of hb hbw).trans h3⟩

def MkPost (base mb : Nat) (wv : Value) (xs ys : List S.Item) (w : World) (e : Ending) (w' : World) : Prop := e = .returned (.tuple #[]) ∧ MkAt base mb wv (xs ++ ys) w' ∧ BK base w w'

section
variable (base mb : Nat) (wv : Value) (xs : List S.Item) (w : World) (h : MkAt base mb wv xs w) (hbw : base ≤ w.heap.size) (hl : xs.length ≤ 900000000)
include h hbw hl
theorem mk_inst (op d a b imm : Int) : Calls Tryd.prog 15 #[.pointer (some ⟨mb, 0, none⟩), .int .i64 op, .int .i64 d, .int .i64 a, .int .i64 b, .int .i64 imm] w (MkPost base mb wv xs [S.iInst op d a b imm] w) := by
  go_enter Tryd.func15, Tryd.ntmps15
  go_wp2_with fail
  refine (mk_one base mb wv xs (S.iInst op d a b imm) w h hbw hl (by simp [S.iInst]) (by simp [S.iInst])).mono ?_
  rintro e w' ⟨rfl, h2, h3⟩
  go_wp2_with fail
  go_end0
  exact ⟨rfl, h2, h3⟩
theorem mk_label (s : ByteArray) : Calls Tryd.prog 34 #[.pointer (some ⟨mb, 0, none⟩), .string s] w (MkPost base mb wv xs [S.iLabel s] w) := by
  go_enter Tryd.func34, Tryd.ntmps34
  go_wp2_with fail
  refine (mk_one base mb wv xs (S.iLabel s) w h hbw hl (by simp [S.iLabel]) (by simp [S.iLabel])).mono ?_
  rintro e w' ⟨rfl, h2, h3⟩
  go_wp2_with fail
  go_end0
  exact ⟨rfl, h2, h3⟩
theorem mk_jump (d : Int) (s : ByteArray) : Calls Tryd.prog 38 #[.pointer (some ⟨mb, 0, none⟩), .int .i64 d, .string s] w (MkPost base mb wv xs [S.iJump d s] w) := by
  go_enter Tryd.func38, Tryd.ntmps38
  go_wp2_with fail
  refine (mk_one base mb wv xs (S.iJump d s) w h hbw hl (by simp [S.iJump]) (by simp [S.iJump])).mono ?_
  rintro e w' ⟨rfl, h2, h3⟩
  go_wp2_with fail
  go_end0
  exact ⟨rfl, h2, h3⟩
theorem mk_branch (op a b : Int) (s : ByteArray) : Calls Tryd.prog 13 #[.pointer (some ⟨mb, 0, none⟩), .int .i64 op, .int .i64 a, .int .i64 b, .string s] w (MkPost base mb wv xs [S.iBranch op a b s] w) := by
  go_enter Tryd.func13, Tryd.ntmps13
  go_wp2_with fail
  refine (mk_one base mb wv xs (S.iBranch op a b s) w h hbw hl (by simp [S.iBranch]) (by simp [S.iBranch])).mono ?_
  rintro e w' ⟨rfl, h2, h3⟩
  go_wp2_with fail
  go_end0
  exact ⟨rfl, h2, h3⟩
end

end Go.Proofs.YtidhglleeccpoaaDoor
end
