/- The interpreter: each operation, and that it does so. -/
import Derived.Test.YtlldagdhlfpihaaGreatDoorZQc
import Derived.Great.BuildSlice
set_option linter.unusedVariables false
set_option linter.unusedSimpArgs false
set_option linter.unusedSectionVars false
namespace Go.Proofs.YtlldagdhlfpihaaGreatDoor
open Go.RowKit

namespace S
def constA : Value → Option AV
  | .int k n => some (.int k n)
  | .bool b => some (.bool b)
  | .string s => some (.str s)
  | .slice none 0 0 => some (.row 0 [])
  | _ => none
def constsA : List Value → Option (List AV)
  | [] => some []
  | v :: r => match constA v, constsA r with
    | some x, some xs => some (x :: xs)
    | _, _ => none
def scal : AV → Option Value
  | .int k n => some (.int k n)
  | .bool b => some (.bool b)
  | .str s => some (.string s)
  | _ => none
def evalA : Operand → Rd AV
  | .tmp t => .sl t fun x => Rd.ofOpt x
  | .const v => Rd.ofOpt (constA v)
  | .func f => .done (.fn f)
  | .global _ => .fail
def evalsA : List Operand → Rd (List AV)
  | [] => .done []
  | x :: r => (evalA x).bind fun v => (evalsA r).bind fun vs => .done (v :: vs)
def partsA : List (Nat × Operand) → Rd (List (Nat × List AV))
  | [] => .done []
  | (i, x) :: r => (evalA x).bind fun v => (Rd.ofOpt v.cells).bind fun c => (partsA r).bind fun vs => .done ((i, c) :: vs)
/-- A reckoning of numbers and texts alone, by the model's own. -/
def pureRun {α : Type} (P : Program) : Sem α → Option α
  | .pure a => some a
  | .program k => pureRun P (k P)
  | _ => none
def zeroA (P : Program) (t : TypeId) : Option (List AV) := match P.info? t with
  | some i => match i.zero with
    | some z => constsA z.cells.toList
    | none => none
  | none => none
def fillA (place : Nat → Option (Nat × Nat)) : List AV → List (Nat × List AV) → Option (List AV)
  | cells, [] => some cells
  | cells, (i, v) :: r => match place i with
    | none => none
    | some (off, size) => if v.length = size ∧ off + v.length ≤ cells.length then fillA place (cells.take off ++ v ++ cells.drop (off + v.length)) r else none
def placesA (P : Program) : List Field → Option (List (Nat × Nat))
  | [] => some []
  | f :: r => match P.info? f.type, placesA P r with
    | some i, some l => some ((f.offset, i.size) :: l)
    | _, _ => none
def sizeA (P : Program) (t : TypeId) : Option Nat := (P.info? t).map (·.size)
def isAggA (P : Program) (t : TypeId) : Option Bool := (P.underlying t).map TypeDesc.isRow

def leave (N : Nat) (dst : Option Tmp) (v : AV) (y : Tail) (drop : Option Nat) : Rd Eff := match dst with
  | some d => if d < N then .done ⟨some (d, v, y), drop, none⟩ else .fail
  | none => .done ⟨none, none, none⟩
/-- A new variable of the frame's own. -/
def fresh (N : Nat) (dst : Option Tmp) (id : Nat) (t : TypeId) (cs : List AV) : Rd Eff := match dst with
  | some d => if d < N then .hp id fun x => match x with
      | none => .done ⟨some (d, .box id 0, none), none, some (id, (t, cs))⟩
      | some _ => .fail
    else .fail
  | none => .fail
def effAssign (N : Nat) (dst : Option Tmp) : Operand → Rd Eff
  | .tmp t => (evalA (.tmp t)).bind fun v => .tl t fun y => match y with
    | some z => leave N dst v (some z) (some t)
    | none => leave N dst v none none
  | .const v => (Rd.ofOpt (constA v)).bind fun x => leave N dst x (match x with | .row _ _ => some (0, 0) | _ => none) none
  | x => (evalA x).bind fun v => leave N dst v none none
def effBuild (P : Program) (N : Nat) (dst : Option Tmp) (t : TypeId) (parts : List (Nat × List AV)) : Rd Eff := match zeroA P t, P.underlying t with
  | some z, some (.struct fields) => match placesA P fields.toList with
    | some places => (Rd.ofOpt (fillA (places.toArray[·]?) z parts)).bind fun cs => leave N dst (.agg cs) none none
    | none => .fail
  | some z, some (.array _ e) => match sizeA P e with
    | some n => (Rd.ofOpt (fillA (fun i => some (i * n, n)) z parts)).bind fun cs => leave N dst (.agg cs) none none
    | none => .fail
  | _, _ => .fail
def timesA (z : List AV) : Nat → List AV
  | 0 => []
  | n + 1 => z ++ timesA z n
def effSlice (P : Program) (N : Nat) (dst : Option Tmp) (t : TypeId) (len : Nat) (parts : List (Nat × List AV)) : Rd Eff := match P.underlying t with
  | some (.slice e) => match zeroA P e, sizeA P e with
    | some z, some n => if z.length = n ∧ 0 < n ∧ 0 < len ∧ len * n ≤ 16777216 then
        (Rd.ofOpt (fillA (fun i => some (i * n, n)) (timesA z len) parts)).bind fun cs => leave N dst (.row len cs) (some (e, n)) none
      else .fail
    | _, _ => .fail
  | _ => .fail
def loadA (P : Program) (t : TypeId) (cs : List AV) (off : Nat) : Option AV := match isAggA P t, sizeA P t with
  | some true, some n => if off + n ≤ cs.length then some (.agg ((cs.drop off).take n)) else none
  | some false, _ => cs[off]?
  | _, _ => none
def effLoad (P : Program) (N : Nat) (dst : Option Tmp) (t : TypeId) : AV → Rd Eff
  | .box i off => .hp i fun x => match x with
    | some (_, cs) => (Rd.ofOpt (loadA P t cs off)).bind fun v => leave N dst v none none
    | none => .fail
  | .ptr cs off => (Rd.ofOpt (loadA P t cs off)).bind fun v => leave N dst v none none
  | _ => .fail
def effStore (P : Program) (dst : Option Tmp) (t : TypeId) (v : List AV) : AV → Rd Eff
  | .box i off => .hp i fun x => match x with
    | some (e, cs) => if dst = none ∧ sizeA P t = some v.length ∧ off + v.length ≤ cs.length then .done ⟨none, none, some (i, (e, cs.take off ++ v ++ cs.drop (off + v.length)))⟩ else .fail
    | none => .fail
  | _ => .fail
def effAppend (P : Program) (N : Nat) (dst : Option Tmp) (t : TypeId) (s : Nat) (x : AV) : Rd Eff := match P.underlying t with
  | some (.slice e) => match P.info? e with
    | some i => match i.zero with
      | some z => .sl s fun old => .tl s fun y => match old, y, x with
        | some (.row n cs), some (e', n'), .row m ds =>
          if ((e' = e ∧ n' = i.size) ∨ n' = 0) ∧ z.cells.size = i.size ∧ 0 < i.size ∧ cs.length = n * i.size ∧ ds.length = m * i.size ∧ n + m ≤ 1000000 ∧ (n + m) * i.bytes ≤ 140737488355328 ∧ dst.isSome = true then leave N dst (.row (n + m) (cs ++ ds)) (some (e, i.size)) (some s) else .fail
        | _, _, _ => .fail
      | none => .fail
    | none => .fail
  | _ => .fail
def okFn (P : Program) (f : FuncId) : Bool := match P.funcs[f]? with
  | some fn => fn.body.isSome && !(fn.name == "runtime.NumGoroutine")
  | none => false
def effCall (P : Program) (N : Nat) (call : FuncId → List AV → Option (AV × Tail)) (dst : Option Tmp) (f : AV) (vs : List AV) : Rd Eff := match f with
  | .fn g => if okFn P g = true ∧ vs.all AV.free = true then match call g vs with
      | some (r, y) => leave N dst r y none
      | none => .fail
    else .fail
  | _ => .fail
def effField (P : Program) (N : Nat) (dst : Option Tmp) (xt : TypeId) (f : Nat) : AV → Rd Eff
  | .agg cs => match P.underlying xt with
    | some (.struct fields) => match fields[f]? with
      | some fd => (Rd.ofOpt (loadA P fd.type cs fd.offset)).bind fun v => leave N dst v none none
      | none => .fail
    | _ => .fail
  | _ => .fail
def effFieldAddr (P : Program) (N : Nat) (dst : Option Tmp) (xt : TypeId) (f : Nat) : AV → Rd Eff
  | .box i off => match P.underlying xt with
    | some (.struct fields) => match fields[f]? with
      | some fd => match sizeA P fd.type with
        | some (n + 1) => .hp i fun x => match x with
          | some _ => leave N dst (.box i (off + fd.offset)) none none
          | none => .fail
        | _ => .fail
      | none => .fail
    | _ => .fail
  | _ => .fail
def effIndexAddr (P : Program) (N : Nat) (dst : Option Tmp) (t : TypeId) (x ix : AV) : Rd Eff := match P.underlying t, x, ix with
  | some (.slice e), .row n cs, .int _ i => match sizeA P e with
    | some z => if 0 ≤ i ∧ i < n ∧ cs.length = n * z ∧ 0 < z then leave N dst (.ptr cs (i.toNat * z)) none none else .fail
    | none => .fail
  | some (.array n e), .box b off, .int _ i => match sizeA P e with
    | some z => if 0 ≤ i ∧ i < n then .hp b fun x => match x with
        | some _ => leave N dst (.box b (off + i.toNat * z)) none none
        | none => .fail
      else .fail
    | none => .fail
  | _, _, _ => .fail
/-- What an operation makes of the frame, if it is wanted. -/
def effOne (P : Program) (N : Nat) (call : FuncId → List AV → Option (AV × Tail)) (id : Nat) (o : Oper) : Rd Eff := match o.op with
  | .move x => effAssign N o.dst x
  | .assign x => effAssign N o.dst x
  | .pick c x y => (evalA c).bind fun v => match v with
    | .bool b => (evalA (if b = true then x else y)).bind fun u => leave N o.dst u none none
    | _ => .fail
  | .alloc t => match zeroA P t with
    | some cs => fresh N o.dst id t cs
    | none => .fail
  | .box t x => (evalA x).bind fun v => (Rd.ofOpt v.cells).bind fun cs => fresh N o.dst id t cs
  | .build t ps => (partsA ps.toList).bind fun vs => effBuild P N o.dst t vs
  | .buildSlice t len ps => (partsA ps.toList).bind fun vs => effSlice P N o.dst t len vs
  | .load t x => (evalA x).bind fun v => effLoad P N o.dst t v
  | .store t x y => (evalA x).bind fun v => (evalA y).bind fun u => (Rd.ofOpt u.cells).bind fun cs => effStore P o.dst t cs v
  | .binOp op xt x y _ => (evalA x).bind fun v => (evalA y).bind fun u => (Rd.ofOpt (scal v)).bind fun v' => (Rd.ofOpt (scal u)).bind fun u' =>
    (Rd.ofOpt (pureRun P (do eqGuard op xt x y v' u'; binOp op xt v' u'))).bind fun r => (Rd.ofOpt (constA r)).bind fun z => leave N o.dst z none none
  | .unOp op _ x => (evalA x).bind fun v => (Rd.ofOpt (scal v)).bind fun v' => (Rd.ofOpt (pureRun P (Op.unary op v'))).bind fun r => (Rd.ofOpt (constA r)).bind fun z => leave N o.dst z none none
  | .convert t t' x => (evalA x).bind fun v => (Rd.ofOpt (scal v)).bind fun v' => (Rd.ofOpt (pureRun P (convert t t' v'))).bind fun r => (Rd.ofOpt (constA r)).bind fun z => leave N o.dst z none none
  | .extract x i => (evalA x).bind fun v => match v with
    | .tup vs => (Rd.ofOpt vs[i]?).bind fun u => leave N o.dst u none none
    | _ => .fail
  | .field xt x f => (evalA x).bind fun v => effField P N o.dst xt f v
  | .fieldAddr xt x f => (evalA x).bind fun v => effFieldAddr P N o.dst xt f v
  | .indexAddr t x i => (evalA x).bind fun v => (evalA i).bind fun u => effIndexAddr P N o.dst t v u
  | .call c => match c.callee with
    | .value f => (evalA f).bind fun g => (evalsA c.args.toList).bind fun vs => effCall P N call o.dst g vs
    | .builtin .append => match c.args.toList, c.argTypes.toList with
      | [.tmp s, x], [t, t'] => if t = t' then (evalA x).bind fun v => effAppend P N o.dst t s v else .fail
      | _, _ => .fail
    | .builtin .len => match c.args.toList, c.argTypes.toList with
      | [x], [t] => match P.underlying t with
        | some (.slice _) => (evalA x).bind fun v => match v with
          | .row n _ => leave N o.dst (.int .i64 n) none none
          | _ => .fail
        | _ => .fail
      | _, _ => .fail
    | _ => .fail
  | _ => .fail
def dstOf (ops : Array Oper) (j : Nat) : Option Tmp := match ops[j]? with
  | some o => o.dst
  | none => none
def effOp (P : Program) (N : Nat) (call : FuncId → List AV → Option (AV × Tail)) (ops : Array Oper) (id : Nat) (o : Oper) : Rd Eff := match o.guard with
  | none => effOne P N call id o
  | some (j, want) => match dstOf ops j with
    | some d => (evalA (.tmp d)).bind fun v => match v with
      | .bool b => if b = want then effOne P N call id o else leave N o.dst .any none none
      | _ => .fail
    | none => .fail
end S

section
variable {P : Program} {B N : Nat} {w0 : World} {H0 : Rowed} {s : S.St} {a : Act} {w : World} {H : Rowed} {φ : Nat → Nat}

theorem pureRun_run {α : Type} : ∀ (m : Sem α) {x : α}, S.pureRun P m = some x → ∀ w, m.run P w = .ok x w
  | .pure a, x, h, w => by simp [S.pureRun] at h; subst h; rfl
  | .program k, x, h, w => by
    rw [S.pureRun] at h
    exact pureRun_run (k P) h w
  | .load .., x, h, w | .store .., x, h, w | .new .., x, h, w | .shape .., x, h, w | .freeze .., x, h, w | .frozen .., x, h, w | .getObj .., x, h, w | .setObj .., x, h, w | .choose .., x, h, w | .sys .., x, h, w | .mark .., x, h, w | .halt .., x, h, w => by
    simp [S.pureRun] at h
theorem constA_rep {v : Value} {x : S.AV} (h : S.constA v = some x) (H : Rowed) (w : World) : RepV H w x v ∧ x.cell = true := by
  unfold S.constA at h
  split at h <;> cases h
  · exact ⟨by rw [RepV], rfl⟩
  · exact ⟨by rw [RepV], rfl⟩
  · exact ⟨by rw [RepV], rfl⟩
  · refine ⟨?_, rfl⟩
    rw [RepV]
    exact ⟨none, 0, rfl, fun _ => rfl, fun _ => rfl, .inl rfl⟩
theorem constsA_rep : ∀ {vs : List Value} {xs : List S.AV}, S.constsA vs = some xs → ∀ (H : Rowed) (w : World), RepL H w xs vs
  | [], xs, h, H, w => by simp [S.constsA] at h; subst h; rw [RepL]
  | v :: r, xs, h, H, w => by
    unfold S.constsA at h
    split at h
    · rename_i x ys h1 h2
      cases h
      rw [RepL]
      exact ⟨v, r, rfl, (constA_rep h1 H w).2, (constA_rep h1 H w).1, constsA_rep h2 H w⟩
    · cases h
theorem scal_rep {x : S.AV} {v u : Value} (h : RepS H w φ s x v) (hs : S.scal x = some u) : v = u := by
  rcases h with ⟨i, off, rfl, _⟩ | h
  · simp [S.scal] at hs
  · unfold S.scal at hs
    split at hs <;> cases hs <;> rw [RepV] at h <;> exact h
theorem cells_rep {x : S.AV} {v : Value} {cs : List S.AV} (h : RepS H w φ s x v) (hc : x.cells = some cs) : RepV H w x v := by
  rcases h with ⟨i, off, rfl, _⟩ | h
  · simp [S.AV.cells] at hc
  · exact h
theorem free_rep {x : S.AV} {v : Value} (h : RepS H w φ s x v) (hc : x.free = true) : RepV H w x v := by
  rcases h with ⟨i, off, rfl, _⟩ | h
  · simp [S.AV.free] at hc
  · exact h
theorem evalA_rep (hG : Gam B N w0 H0 s a w H φ) {x : Operand} {v : S.AV} {l : List Nat} (h : (S.evalA x).run s = some (v, l)) : RepS H w φ s v (a.eval x) := by
  cases x with
  | tmp t =>
    simp only [S.evalA, S.Rd.run] at h
    split at h
    · rename_i u l' hu
      simp only [Option.some.injEq, Prod.mk.injEq] at h
      obtain ⟨rfl, _⟩ := h
      exact hG.slot t _ (rd_ofOpt hu)
    · cases h
  | const c => exact .inr (constA_rep (rd_ofOpt h) H w).1
  | func f =>
    simp only [S.evalA, S.Rd.run, Option.some.injEq, Prod.mk.injEq] at h
    obtain ⟨rfl, _⟩ := h
    exact .inr (by rw [RepV]; rfl)
  | global g => simp [S.evalA, S.Rd.run] at h
theorem evalsA_rep (hG : Gam B N w0 H0 s a w H φ) : ∀ {xs : List Operand} {vs : List S.AV} {l : List Nat}, (S.evalsA xs).run s = some (vs, l) → vs.all S.AV.free = true → RepT H w vs (xs.map a.eval)
  | [], vs, l, h, _ => by
    simp only [S.evalsA, S.Rd.run, Option.some.injEq, Prod.mk.injEq] at h
    obtain ⟨rfl, _⟩ := h
    rw [RepT]; rfl
  | x :: r, vs, l, h, hf => by
    unfold S.evalsA at h
    obtain ⟨v, _, _, h1, h⟩ := rd_bind _ _ h
    obtain ⟨us, _, _, h2, h⟩ := rd_bind _ _ h
    simp only [S.Rd.run, Option.some.injEq, Prod.mk.injEq] at h
    obtain ⟨rfl, _⟩ := h
    rw [List.all_cons, Bool.and_eq_true] at hf
    rw [RepT]
    exact ⟨_, _, rfl, free_rep (evalA_rep hG h1) hf.1, evalsA_rep hG h2 hf.2⟩
/-- The parts of a literal. -/
inductive RepP (H : Rowed) (w : World) : List (Nat × List S.AV) → List (Nat × Value) → Prop
  | nil : RepP H w [] []
  | cons {i cs v vs r r'} : v.cells = vs.toArray → RepL H w cs vs → RepP H w r r' → RepP H w ((i, cs) :: r) ((i, v) :: r')
theorem partsA_rep (hG : Gam B N w0 H0 s a w H φ) : ∀ {ps : List (Nat × Operand)} {vs : List (Nat × List S.AV)} {l : List Nat}, (S.partsA ps).run s = some (vs, l) → RepP H w vs (ps.map fun p => (p.1, a.eval p.2))
  | [], vs, l, h => by
    simp only [S.partsA, S.Rd.run, Option.some.injEq, Prod.mk.injEq] at h
    obtain ⟨rfl, _⟩ := h
    exact .nil
  | (i, x) :: r, vs, l, h => by
    unfold S.partsA at h
    obtain ⟨v, _, _, h1, h⟩ := rd_bind _ _ h
    obtain ⟨c, _, _, h2, h⟩ := rd_bind _ _ h
    obtain ⟨us, _, _, h3, h⟩ := rd_bind _ _ h
    simp only [S.Rd.run, Option.some.injEq, Prod.mk.injEq] at h
    obtain ⟨rfl, _⟩ := h
    have hc := rd_ofOpt h2
    obtain ⟨cv, e, hr⟩ := rep_cells (cells_rep (evalA_rep hG h1) hc) hc
    exact .cons e hr (partsA_rep hG h3)

theorem foldl_set (vs : List Value) (off : Nat) : ∀ (j : Nat) (cs : Array Value), off + j + vs.length ≤ cs.size →
    ((vs.zipIdx j).foldl (fun cs (x : Value × Nat) => cs.setIfInBounds (off + x.2) x.1) cs).toList = cs.toList.take (off + j) ++ vs ++ cs.toList.drop (off + j + vs.length) := by
  induction vs with
  | nil => intro j cs h; simp
  | cons v r ih =>
    intro j cs h
    rw [List.length_cons] at h
    rw [List.zipIdx_cons, List.foldl_cons, ih (j + 1) _ (by simp; omega)]
    simp only [Array.toList_setIfInBounds]
    have hlt : off + j < cs.toList.length := by simp; omega
    rw [List.length_cons, show off + (j + 1) = off + j + 1 by omega]
    have e1 : (cs.toList.set (off + j) v).take (off + j + 1) = cs.toList.take (off + j) ++ [v] := by
      rw [List.take_set, List.take_add_one, List.getElem?_eq_getElem hlt]
      simp only [Option.toList_some]
      rw [List.set_append_right _ _ (by rw [List.length_take]; omega)]
      have : off + j - (cs.toList.take (off + j)).length = 0 := by simp; omega
      rw [this, List.set_cons_zero]
    have e2 : (cs.toList.set (off + j) v).drop (off + j + 1 + r.length) = cs.toList.drop (off + j + (r.length + 1)) := by
      rw [List.drop_set_of_lt (by omega)]
      congr 1
      omega
    rw [e1, e2]
    simp
theorem fill_rep {place : Nat → Option (Nat × Nat)} : ∀ {ps : List (Nat × List S.AV)} {vps : List (Nat × Value)} {cs out : List S.AV} {vcs : Array Value}, RepP H w ps vps → RepL H w cs vcs.toList → S.fillA place cs ps = some out → ∃ r, Instr.fill place vcs vps = some r ∧ RepL H w out r.toList
  | _, _, cs, out, vcs, .nil, hc, h => by
    simp [S.fillA] at h
    subst h
    exact ⟨vcs, rfl, hc⟩
  | _, _, cs, out, vcs, .cons (i := i) (cs := pc) (v := v) (vs := pv) (r := r) (r' := r') e hr hp, hc, h => by
    unfold S.fillA at h
    unfold Instr.fill
    cases hpl : place i with
    | none => rw [hpl] at h; cases h
    | some q =>
      obtain ⟨off, size⟩ := q
      rw [hpl] at h
      simp only at h ⊢
      split at h
      · rename_i hh
        have hl := RepL.length hr
        have hl2 := RepL.length hc
        have hsz : v.cells.size = pc.length := by rw [e]; simp [hl]
        have hvl : vcs.size = cs.length := by rw [← hl2]; simp
        have hno : ¬ ((decide (v.cells.size ≠ size) || decide (off + v.cells.size > vcs.size)) = true) := by
          rw [hsz, hvl]
          simp only [Bool.or_eq_true, decide_eq_true_eq, not_or]
          omega
        rw [if_neg hno]
        refine fill_rep hp ?_ h
        rw [e, ← Array.foldl_toList, Array.toList_zipIdx]
        have := foldl_set pv off 0 vcs (by omega)
        rw [Nat.add_zero] at this
        rw [this, ← hl]
        exact RepL.append (RepL.append (RepL.take off hc) hr) (RepL.drop _ hc)
      · cases h
end

end Go.Proofs.YtlldagdhlfpihaaGreatDoor
