/- Plain mathematics of layer 24: what a function's code becomes. No program in sight. -/
import Derived.Test.YtkdalaiponchbaaDoorAsmSpec
import Derived.Test.YtkdalaiponchbaaDoorITxt
set_option linter.unusedVariables false
set_option linter.unusedSimpArgs false
set_option linter.unusedSectionVars false
namespace Go.Proofs.YtkdalaiponchbaaDoor
namespace S

structure VInst where
  op : Int
  d : Int
  a : Int
  b : Int
  imm : Int
  label : Int
  uses : List Int
  map : List Int
structure VFunc where
  fn : Int
  regs : Int
  slots : Int
  need : Int
  params : Int
  rest : Bool
  insts : List VInst

/-- How often a label stands. -/
def vstands (l : List VInst) (lab : Int) : Int := ((l.filter fun i => decide (i.op = 65 ∧ i.label = lab)).length : Nat)
def regOf (regs r : Int) : Bool := decide (0 ≤ r ∧ r < regs)
/-- Is it one of the machine's, but for its registers? -/
def vplain (i : VInst) : Bool := decide (1 ≤ i.op ∧ i.op ≤ 25) && good ⟨i.op, 0, 0, 0, i.imm⟩
def vform (i : VInst) : Bool := vplain i || decide ((26 ≤ i.op ∧ i.op ≤ 31) ∨ (64 ≤ i.op ∧ i.op ≤ 72))
def vgoes (i : VInst) : Bool := decide ((26 ≤ i.op ∧ i.op ≤ 31) ∨ i.op = 66 ∨ i.op = 65)
/-- May an instruction of virtual code be? -/
def vinst (regs : Int) (l : List VInst) (i : VInst) : Bool :=
  vform i && (!vgoes i || decide (vstands l i.label = 1)) && i.uses.all (regOf regs) && regOf regs i.a && regOf regs i.b && (regOf regs i.d || decide (i.op = 67 ∧ i.d < 0))
def vlast (l : List VInst) : Bool := match l.getLast? with
  | none => false
  | some i => decide (i.op = 66 ∨ i.op = 68 ∨ i.op = 72)
/-- What isel.Check answers. -/
def vchk (regs need slots params : Int) (l : List VInst) : Int :=
  if decide (32 ≤ regs ∧ 0 ≤ need ∧ 0 ≤ slots ∧ 0 ≤ params) && l.all (vinst regs l) && vlast l then 0 else 2

/-- Rising, each from 0 to one less than there are. -/
def rising : List Int → Bool
  | [] => true
  | [_] => true
  | x :: y :: r => decide (x < y) && rising (y :: r)
def slotOk (slots s : Int) : Bool := decide (0 ≤ s ∧ s < slots)
def moves (i : VInst) : Bool := decide (i.op = 73 ∨ i.op = 74)
def einst (slots : Int) (i : VInst) : Bool :=
  decide (i.d ≤ 31 ∧ i.a ≤ 31 ∧ i.b ≤ 31) && i.uses.all (fun r => decide (r ≤ 31)) && i.map.all (slotOk slots) && rising i.map && (!moves i || slotOk slots i.imm)
def moved (i : VInst) : VInst := if moves i = true then { i with op := 64 } else i
/-- What emit.Check answers. -/
def echk (f : VFunc) : Int :=
  if decide (0 ≤ f.slots ∧ f.slots ≤ 16777216 ∧ f.need ≤ 16777216 ∧ f.params ≤ 16777216 ∧ ¬(f.rest = true ∧ f.params < 1) ∧ 0 ≤ f.fn) && f.insts.all (einst f.slots) then
    vchk f.regs f.need f.slots f.params (f.insts.map moved) else 2

/-! Items -/
def lab (pre : List UInt8) (n : Int) : ByteArray := ⟨(pre ++ itoa n).toArray⟩
def noLab : ByteArray := ⟨#[]⟩
def rt (n : Int) : ByteArray := lab [114, 116] n
def own (n : Int) : ByteArray := lab [46, 108] n
def outer (n : Int) : ByteArray := lab [102] n
def inner (n : Int) : ByteArray := lab [107] n
def goLab : ByteArray := ⟨#[46, 103, 111]⟩
def moreLab : ByteArray := ⟨#[109, 111, 114, 101]⟩
def iInst (op d a b imm : Int) : Item := ⟨1, ⟨op, d, a, b, imm⟩, noLab, 0⟩
def iLabel (s : ByteArray) : Item := ⟨2, ⟨0, 0, 0, 0, 0⟩, s, 0⟩
def iJump (d : Int) (s : ByteArray) : Item := ⟨4, ⟨0, d, 0, 0, 0⟩, s, 0⟩
def iBranch (op a b : Int) (s : ByteArray) : Item := ⟨3, ⟨op, 0, a, b, 0⟩, s, 0⟩
def iWord (w : Int) : Item := ⟨6, ⟨0, 0, 0, 0, 0⟩, noLab, w⟩
def iAddr (d : Int) (s : ByteArray) (w : Int) : Item := ⟨5, ⟨0, d, 0, 0, 0⟩, s, w⟩

/-- A word to a register. -/
def eload (d w : Int) : List Item :=
  if w < 32768 then [iInst 15 d 0 0 w] else if 4294934528 ≤ w then [iInst 15 d 0 0 (w - 4294967296)]
  else if w % 65536 = 0 then [iInst 23 d 0 0 (w / 65536)] else [iInst 23 d 0 0 (w / 65536), iInst 17 d d 0 (w % 65536)]
def u32 (n : Int) : Int := n % 4294967296
/-- A frame map's words: how many, and each: which of its 32 slots live. -/
def mapLen (l : List Int) : Nat := match l.getLast? with
  | none => 0
  | some s => (s / 32 + 1).toNat
def mapBit (l : List Int) (k : Int) : Int := if k ∈ l then 1 else 0
/-- The word's bits from the highest of k on. -/
def mapW (l : List Int) (base : Int) : Nat → Int
  | 0 => 0
  | k + 1 => 2 * mapW l base k + mapBit l (base + 31 - k)
def eframe (l : List Int) : List Item := iWord ((mapLen l : Nat) : Int) :: (List.range (mapLen l)).map fun (i : Nat) => iWord (mapW l (32 * (i : Int)) 32)
def etail (n : Int) : List Item := if 0 ≤ n then [iJump 0 (inner n)] else [iInst 20 25 1 0 2, iInst 24 25 25 0 1, iInst 20 25 25 0 2, iInst 33 0 25 0 0]
def eslot (n : Int) : List Item × Int × Int := if n < 1024 then ([], 0, 32 + n) else ([iAddr 25 moreLab (u32 (n - 1024))], 25, 0)
/-- The items of an instruction. -/
def eitems (words : List Int) (i : VInst) : List Item :=
  if 26 ≤ i.op ∧ i.op ≤ 31 then [iBranch i.op i.a i.b (own i.label)]
  else if i.op = 64 then (if i.d = i.a then [] else [iInst 15 i.d i.a 0 0])
  else if i.op = 65 then [iLabel (own i.label)]
  else if i.op = 66 then [iJump 0 (own i.label)]
  else if i.op = 67 then iJump 31 (rt i.imm) :: eframe i.map
  else if i.op = 68 then etail i.imm
  else if i.op = 69 then eload i.d (u32 i.imm)
  else if i.op = 70 then [iAddr i.d (outer i.imm) 0, iInst 19 i.d i.d 0 2]
  else if i.op = 71 then eload i.d (words.getD i.imm.toNat 0)
  else if i.op = 72 then [iJump 0 (rt i.imm)]
  else if i.op = 73 then (eslot i.imm).1 ++ [iInst 24 i.d (eslot i.imm).2.1 0 (eslot i.imm).2.2]
  else if i.op = 74 then (eslot i.imm).1 ++ [iInst 25 0 (eslot i.imm).2.1 i.a (eslot i.imm).2.2]
  else [iInst i.op i.d i.a i.b i.imm]
/-- What stands ahead of a function's instructions. -/
def eentry (f : VFunc) : List Item :=
  let fixed := if f.rest = true then f.params - 1 else f.params
  let op := if f.rest = true then 28 else 27
  [iLabel (outer f.fn)] ++ eload 3 (u32 fixed) ++ [iBranch op 2 3 (rt 103), iLabel (inner f.fn)] ++
    (if f.rest = true then eload 3 (u32 fixed) ++ [iJump 31 (rt 101)]
     else if 0 < f.need then eload 3 (u32 f.need) ++ [iInst 1 3 26 3 0, iBranch 31 27 3 goLab] ++ eload 3 (u32 f.need) ++ [iJump 31 (rt 100), iLabel goLab]
     else [])
def dataOk (words : List Int) (i : VInst) : Bool := decide (¬(i.op = 71 ∧ (i.imm < 0 ∨ (words.length : Int) ≤ i.imm)))
/-- What emit.Emit answers: the name, the items, the error. -/
def emitE (f : VFunc) (words : List Int) : Int := if echk f = 0 ∧ f.insts.all (dataOk words) = true then 0 else 2
def emitName (f : VFunc) (words : List Int) : ByteArray := if emitE f words = 0 then lab [102, 117, 110] f.fn else noLab
def emitItems (f : VFunc) (words : List Int) : List Item := if emitE f words = 0 then eentry f ++ f.insts.flatMap (eitems words) else []
end S

end Go.Proofs.YtkdalaiponchbaaDoor
