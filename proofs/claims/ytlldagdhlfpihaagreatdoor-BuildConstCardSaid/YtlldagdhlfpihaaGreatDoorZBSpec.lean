/- Qi, AsmSpec, BSpec: joined.  Plain: routines of expressions and statements (layer 25), what they may be, the items that they become. No program in sight. -/
import Derived.Test.YtlldagdhlfpihaaGreatDoorZQh
import Derived.Test.YtlldagdhlfpihaaGreatDoorZOwn
section
set_option linter.unusedVariables false
set_option linter.unusedSimpArgs false
set_option linter.unusedSectionVars false
namespace Go.Proofs.YtlldagdhlfpihaaGreatDoor
open Go.RowKit

namespace S
def resultA (P : Program) (s : St) : ResultVar → Option (AV × Tail)
  | .tmp t => match s.sl t with
    | some v => if v.free = true then some (v, s.tl t) else none
    | none => none
  | .cell p t => match s.sl p with
    | some (.box i off) => match s.hp i with
      | some (_, cs) => match loadA P t cs off with
        | some v => some (v, none)
        | none => none
      | none => none
    | _ => none
def resultsA (P : Program) (s : St) : List ResultVar → Option (List AV)
  | [] => some []
  | r :: rs => match resultA P s r, resultsA P s rs with
    | some (v, _), some vs => some (v :: vs)
    | _, _ => none
def initSt (xs : List AV) : St := ⟨fun t => xs[t]?, fun _ => none, fun _ => none⟩
def bodyA (P : Program) (call : FuncId → List AV → Option (AV × Tail)) (cf : Nat) (fn : Func) (c : Code) (xs : List AV) : Option (AV × Tail) :=
  if xs.length ≤ fn.ntmps then match runCode P fn.ntmps call cf c 0 (initSt xs) with
    | some (.exit _, _, _) => none
    | some (_, _, s) => match fn.results.toList with
      | [r] => resultA P s r
      | rs => match resultsA P s rs with
        | some vs => if vs.length = 1 then none else some (.tup vs, none)
        | none => none
    | none => none
  else none
/-- What a function makes of its arguments; some functions are told by themselves. -/
def runFn (P : Program) (orc : FuncId → List AV → Option (AV × Tail)) (cf : Nat) : Nat → FuncId → List AV → Option (AV × Tail)
  | 0, _, _ => none
  | n + 1, f, xs => match orc f xs with
    | some r => some r
    | none => match P.funcs[f]? with
      | some fn => match fn.body with
        | some c => bodyA P (runFn P orc cf n) cf fn c xs
        | none => none
      | none => none
end S

/-- What a result is read from. -/
def resSem (tmps : Array Value) : ResultVar → Sem Value
  | .tmp t => pure (tmps.getD t undef)
  | .cell p t => do loadVar t (← asAddr (tmps.getD p undef))
theorem results_eq (fn : Func) (tmps : Array Value) : results fn tmps = (do let vs ← fn.results.mapM (resSem tmps); pure (if h : vs.size = 1 then vs[0] else .tuple vs)) := by
  unfold results
  congr

section
variable {P : Program} {B N : Nat} {w0 : World} {H0 : Rowed} {s : S.St} {a : Act} {w : World} {H : Rowed} {φ : Nat → Nat}

theorem result_run (hG : Gam B N w0 H0 s a w H φ) {r : ResultVar} {v : S.AV} {y : S.Tail} (h : S.resultA P s r = some (v, y)) :
    ∃ u, (resSem a.tmps r).run P w = .ok u w ∧ RepV H w v u ∧ ∀ z, y = some z → TailOk H w B z v u := by
  cases r with
  | tmp t =>
    simp only [S.resultA] at h
    split at h
    · rename_i x hx
      split at h
      · rename_i hf
        simp only [Option.some.injEq, Prod.mk.injEq] at h
        obtain ⟨rfl, rfl⟩ := h
        refine ⟨_, rfl, free_rep (hG.slot t _ hx) hf, fun z hz => ?_⟩
        obtain ⟨x', hx', hok⟩ := hG.tail t z hz
        rw [hx] at hx'
        cases hx'
        exact hok
      · cases h
    · cases h
  | cell p t =>
    simp only [S.resultA] at h
    split at h
    · rename_i i off hx
      split at h
      · rename_i e cs hcs
        split at h
        · rename_i v' hv
          simp only [Option.some.injEq, Prod.mk.injEq] at h
          obtain ⟨rfl, rfl⟩ := h
          rcases hG.slot p _ hx with ⟨i', off', hi, hsm, hp⟩ | hr
          · cases hi
            obtain ⟨_, _, vs, h1, h2⟩ := hG.ent i e cs hcs
            obtain ⟨u, hrun, hrep⟩ := load_run (off := off) (q := 0) (rangeAt_heap h1) h2 hv
            refine ⟨u, ?_, hrep, fun z hz => by cases hz⟩
            rw [Nat.zero_add] at hrun
            simp only [Instr.loadAt, Instr.sureAddr, Sem.run_bind, Sem.run_pure, Result.andThen_ok] at hrun
            simp only [resSem, hp, asAddr, Sem.run_bind, Sem.run_pure, Result.andThen_ok, hrun]
          · rw [RepV] at hr; exact hr.elim
        · cases h
      · cases h
    · cases h
theorem results_run (hG : Gam B N w0 H0 s a w H φ) : ∀ {rs : List ResultVar} {xs : List S.AV}, S.resultsA P s rs = some xs → ∃ vs, (rs.mapM (resSem a.tmps)).run P w = .ok vs w ∧ RepT H w xs vs
  | [], xs, h => by
    simp only [S.resultsA, Option.some.injEq] at h
    subst h
    exact ⟨[], rfl, by rw [RepT]⟩
  | r :: rs, xs, h => by
    unfold S.resultsA at h
    split at h
    · rename_i v y vs h1 h2
      cases h
      obtain ⟨u, hu, hrep, _⟩ := result_run hG h1
      obtain ⟨us, hus, hreps⟩ := results_run hG h2
      refine ⟨u :: us, ?_, by rw [RepT]; exact ⟨u, us, rfl, hrep, hreps⟩⟩
      rw [List.mapM_cons]
      simp only [Sem.run_bind, hu, Result.andThen_ok, hus, Sem.run_pure]
    · cases h

theorem init_gam {fn : Func} {xs : List S.AV} {vs : List Value} (hn : xs.length ≤ fn.ntmps) (hb : ∀ b k, H b = some k → b < w.heap.size) (hr : RepT H w xs vs) :
    Gam w.heap.size fn.ntmps w H (S.initSt xs) { tmps := vs.toArray ++ Array.replicate (fn.ntmps - vs.toArray.size) undef, defers := [] } w H (fun _ => 0) := by
  have hl := RepT.length hr
  refine ⟨Below.refl _ _, Nat.le_refl _, fun _ _ => rfl, hb, by simp; omega, rfl, fun t x hx => .inr ?_, fun i e cs hi => by simp [S.initSt] at hi, fun i j hi => by simp [S.initSt] at hi, fun t y hy => by simp [S.initSt] at hy, fun t t' _ ht => by simp [S.initSt] at ht⟩
  obtain ⟨v, hv, hrep⟩ := RepT.at_ hr (show xs[t]? = some x from hx)
  have e : ({ tmps := vs.toArray ++ Array.replicate (fn.ntmps - vs.toArray.size) undef, defers := [] } : Act).tmps.getD t undef = v := by
    have hlt := (List.getElem?_eq_some_iff.1 hv).1
    simp only [Array.getD_eq_getD_getElem?]
    rw [Array.getElem?_append_left (by simpa using hlt)]
    simp [hv]
  rw [e]
  exact hrep

theorem body_sound {W : World → Prop} (hWs : ∀ w w', W w → Below w.heap.size w w' → W w') {call : FuncId → List S.AV → Option (S.AV × S.Tail)} (hcall : ∀ f xs r y, call f xs = some (r, y) → AFn P W f xs r y) {cf : Nat} {f : FuncId} {fn : Func} {c : Code}
    (hf : P.funcs[f]? = some fn) (hc : fn.body = some c) {xs : List S.AV} {r : S.AV} {y : S.Tail} (h : S.bodyA P call cf fn c xs = some (r, y)) : AFn P W f xs r y := by
  intro H w vs hbnd hWw hrep
  unfold S.bodyA at h
  split at h
  · rename_i hn
    refine calls_of_wp hf hc ?_
    have hG := init_gam (fn := fn) hn hbnd hrep
    have fin : ∀ (s : S.St) (a : Act) (w' : World), GamX w.heap.size fn.ntmps w H s a w' → (match fn.results.toList with | [q] => S.resultA P s q | rs => match S.resultsA P s rs with | some us => if us.length = 1 then none else some (.tup us, none) | none => none) = some (r, y) →
        a.defers = [] ∧ ∃ v, (results fn a.tmps).run P w' = .ok v w' ∧ ∃ v' H', Ending.returned v = .returned v' ∧ Below w.heap.size w w' ∧ (∀ b, b < w.heap.size → H' b = H b) ∧ (∀ b k, H' b = some k → b < w'.heap.size) ∧ RepV H' w' r v' ∧ ∀ z, y = some z → TailOk H' w' w.heap.size z r v' := by
      rintro s a w' ⟨H', φ, hG'⟩ hres
      refine ⟨hG'.defs, ?_⟩
      split at hres
      · rename_i q hq
        obtain ⟨u, hu, hr, ht⟩ := result_run hG' hres
        have e : fn.results = #[q] := by rw [← Array.toArray_toList (xs := fn.results), hq]
        refine ⟨u, ?_, u, H', rfl, hG'.bel, hG'.old, hG'.bnd, hr, ht⟩
        rw [results_eq, Sem.run_bind, Array.mapM_eq_mapM_toList, hq, List.mapM_cons, List.mapM_nil]
        simp only [Sem.run_bind, Sem.run_map, hu, Result.andThen_ok, Sem.run_pure]
        rfl
      · rename_i hne
        split at hres
        · rename_i us hus
          split at hres
          · cases hres
          · rename_i h1
            simp only [Option.some.injEq, Prod.mk.injEq] at hres
            obtain ⟨rfl, rfl⟩ := hres
            obtain ⟨ws, hws, hT⟩ := results_run hG' hus
            have hl := RepT.length hT
            refine ⟨.tuple ws.toArray, ?_, _, H', rfl, hG'.bel, hG'.old, hG'.bnd, by rw [RepV]; exact ⟨ws, rfl, hT⟩, fun z hz => by cases hz⟩
            rw [results_eq, Sem.run_bind, Array.mapM_eq_mapM_toList]
            simp only [Sem.run_map, hws, Result.andThen_ok, Sem.run_pure]
            rw [dif_neg]
            rw [List.size_toArray, hl]
            exact h1
        · cases hres
    split at h
    · cases h
    · rename_i ex ep s hne hcode
      refine code_sound (W := W) (fun w' hb => hWs w w' hWw hb) hcall cf c 0 ep _ s ex hcode _ (fun a w' hG' => ?_) _ w ⟨H, _, hG⟩
      have := fin s a w' hG' h
      cases ex with
      | normal => exact this
      | ret => exact this
      | exit id => exact (hne _ rfl).elim
    · cases h
  · cases h

/-- What the interpreter says of a function is so. -/
theorem fn_sound {W : World → Prop} (hWs : ∀ w w', W w → Below w.heap.size w w' → W w') {orc : FuncId → List S.AV → Option (S.AV × S.Tail)} (horc : ∀ f xs r y, orc f xs = some (r, y) → AFn P W f xs r y) {cf : Nat} :
    ∀ (n : Nat) (f : FuncId) (xs : List S.AV) (r : S.AV) (y : S.Tail), S.runFn P orc cf n f xs = some (r, y) → AFn P W f xs r y
  | 0, f, xs, r, y, h => by simp [S.runFn] at h
  | n + 1, f, xs, r, y, h => by
    unfold S.runFn at h
    split at h
    · rename_i q hq
      cases h
      exact horc f xs r y hq
    · split at h
      · rename_i fn hf
        split at h
        · rename_i c hc
          exact body_sound hWs (fun f xs r y h => fn_sound hWs horc n f xs r y h) hf hc h
        · cases h
      · cases h
end

end Go.Proofs.YtlldagdhlfpihaaGreatDoor
end

section
set_option linter.unusedVariables false
set_option linter.unusedSimpArgs false
set_option linter.unusedSectionVars false
namespace Go.Proofs.YtlldagdhlfpihaaGreatDoor
namespace S

structure Item where
  kind : Int
  inst : Inst
  label : ByteArray
  word : Int

/-- The word of an instruction, 0 if it may not be. -/
def wordOf (x : Inst) : Int := if good x = true then enc x else 0

def size (x : Item) (form : Int) : Int :=
  if x.kind = 2 then 0 else if x.kind = 3 ∧ form = 3 then 4 else if x.kind = 3 then form else if x.kind = 4 then 2 * form - 1
  else if x.kind = 5 then 2 else if x.kind = 8 then x.word else 1

def regOk (n : Int) : Bool := decide (0 ≤ n ∧ n ≤ 31)

/-- May an item be? -/
def chkItem (x : Item) : Int :=
  if x.kind < 1 ∨ 8 < x.kind then 4
  else if x.kind = 1 ∧ chk x.inst ≠ 0 then 11
  else if x.kind = 3 ∧ (turned x.inst.op = 0 ∨ ¬ (regOk x.inst.a = true) ∨ ¬ (regOk x.inst.b = true)) then 11
  else if (x.kind = 4 ∨ x.kind = 5) ∧ ¬ (regOk x.inst.d = true) then 11
  else 0

def named (x : Item) : Bool := decide (x.kind = 3 ∨ x.kind = 4 ∨ x.kind = 5 ∨ x.kind = 7)

/-- The first error of items by themselves; 0: none. -/
def firstErr : List Item → Int
  | [] => 0
  | x :: r => if chkItem x ≠ 0 then chkItem x else firstErr r

/-- The first item at which a label stands, from one place on. -/
def standsFrom (xs : List Item) (lab : ByteArray) : Nat → Nat → Int
  | 0, _ => -1
  | f + 1, i => match xs[i]? with
    | none => -1
    | some x => if x.kind = 2 ∧ x.label = lab then i else standsFrom xs lab f (i + 1)
def stands (xs : List Item) (lab : ByteArray) : Int := standsFrom xs lab xs.length 0

def Dup (xs : List Item) : Prop := ∃ (i : Nat) (x : Item), xs[i]? = some x ∧ x.kind = 2 ∧ stands xs x.label ≠ i
def Miss (xs : List Item) : Prop := ∃ (i : Nat) (x : Item), xs[i]? = some x ∧ named x = true ∧ stands xs x.label < 0

def lui (tq : Int) : Int := wordOf ⟨23, 25, 0, 0, tq / 65536⟩
def ori (tq : Int) : Int := wordOf ⟨17, 25, 25, 0, tq % 65536⟩
/-- The words of an item of a form at an address; to: where its label stands. -/
def wordsOf (x : Item) (form at_ tq : Int) : List Int :=
  if x.kind = 1 then [wordOf x.inst]
  else if x.kind = 3 ∧ form = 1 then [wordOf ⟨x.inst.op, 0, x.inst.a, x.inst.b, tq - at_ - 1⟩]
  else if x.kind = 3 ∧ form = 2 then [wordOf ⟨turned x.inst.op, 0, x.inst.a, x.inst.b, 1⟩, wordOf ⟨32, 0, 0, 0, tq - at_ - 2⟩]
  else if x.kind = 3 then [wordOf ⟨turned x.inst.op, 0, x.inst.a, x.inst.b, 3⟩, lui tq, ori tq, wordOf ⟨33, 0, 25, 0, 0⟩]
  else if x.kind = 4 ∧ form = 1 then [wordOf ⟨32, x.inst.d, 0, 0, tq - at_ - 1⟩]
  else if x.kind = 4 then [lui tq, ori tq, wordOf ⟨33, x.inst.d, 25, 0, 0⟩]
  else if x.kind = 5 then [wordOf ⟨23, x.inst.d, 0, 0, (tq + x.word) % 4294967296 / 65536⟩, wordOf ⟨17, x.inst.d, x.inst.d, 0, (tq + x.word) % 4294967296 % 65536⟩]
  else if x.kind = 6 then [x.word]
  else if x.kind = 7 then [(4 * tq + x.word) % 4294967296]
  else if x.kind = 8 then List.replicate x.word.toNat 0
  else []

def most26 : Int := 67108864

/-- What the checks ahead of the forms answer. -/
def CheckRes (xs : List Item) (base r : Int) : Prop :=
  ((base < 0 ∨ most26 < base) ∧ r = 2) ∨
  (0 ≤ base ∧ base ≤ most26 ∧ firstErr xs ≠ 0 ∧ r = firstErr xs) ∨
  (0 ≤ base ∧ base ≤ most26 ∧ firstErr xs = 0 ∧ Dup xs ∧ r = 14) ∨
  (0 ≤ base ∧ base ≤ most26 ∧ firstErr xs = 0 ∧ ¬ Dup xs ∧ Miss xs ∧ r = 12) ∨
  (0 ≤ base ∧ base ≤ most26 ∧ firstErr xs = 0 ∧ ¬ Dup xs ∧ ¬ Miss xs ∧ r = 0)

/-- How many words the item at a place has. -/
def sizeAt (xs : List Item) (F : List Int) (i : Nat) : Int :=
  match xs[i]? with
  | none => 0
  | some x => size x (F.getD i 0)
/-- The address of the item at a place. -/
def addr (xs : List Item) (F : List Int) (base : Int) : Nat → Int
  | 0 => base
  | i + 1 => addr xs F base i + sizeAt xs F i

/-- Forms that items may have on the way. -/
def FormOk (xs : List Item) (F : List Int) : Prop :=
  F.length = xs.length ∧ ∀ (i : Nat) (x : Item), xs[i]? = some x →
    (x.kind = 3 → 1 ≤ F.getD i 0 ∧ F.getD i 0 ≤ 3) ∧ (x.kind = 4 → 1 ≤ F.getD i 0 ∧ F.getD i 0 ≤ 2) ∧ (x.kind ≠ 3 → x.kind ≠ 4 → F.getD i 0 = 0)

/-- Does the form of an item fit? -/
def fit (xs : List Item) (F : List Int) (base : Int) (i : Nat) (x : Item) : Bool :=
  if (x.kind ≠ 3 ∧ x.kind ≠ 4) ∨ (x.kind = 3 ∧ F.getD i 0 = 3) ∨ (x.kind = 4 ∧ F.getD i 0 = 2) then true
  else if x.kind = 3 ∧ F.getD i 0 = 1 then
    decide (-32768 ≤ addr xs F base (stands xs x.label).toNat - addr xs F base (i + 1) ∧ addr xs F base (stands xs x.label).toNat - addr xs F base (i + 1) ≤ 32767)
  else decide (-1048576 ≤ addr xs F base (stands xs x.label).toNat - addr xs F base (i + 1) ∧ addr xs F base (stands xs x.label).toNat - addr xs F base (i + 1) ≤ 1048575)

end S

/-- The check that asm makes of a branch: of its turned operation. -/
theorem chk_turned (op a b : Int) : S.chk ⟨S.turned op, 0, a, b, 0⟩ = if S.turned op = 0 ∨ ¬ (S.regOk a = true) ∨ ¬ (S.regOk b = true) then 11 else 0 := by
  by_cases h : S.turned op = 0
  · simp only [h, true_or, if_true]
    have hf : S.form 0 = 0 := by decide
    simp [S.chk, S.good, hf]
  · have ht : 26 ≤ S.turned op ∧ S.turned op ≤ 31 := by
      revert h; unfold S.turned; grind
    have hf : S.form (S.turned op) = 4 := by
      unfold S.form; grind
    have hl : S.least (S.turned op) = -32768 ∧ S.most (S.turned op) = 32767 := by
      unfold S.least S.most; grind
    simp only [S.chk, S.good, hf, S.hasD, S.hasA, S.hasB, S.reg, S.regOk, hl.1, hl.2]
    simp [h]
    grind
theorem chk_jump (d : Int) : S.chk ⟨32, d, 0, 0, 0⟩ = if ¬ (S.regOk d = true) then 11 else 0 := by
  have hf : S.form 32 = 5 := by decide
  have hl : S.least 32 = -1048576 ∧ S.most 32 = 1048575 := by decide
  simp only [S.chk, S.good, hf, S.hasD, S.hasA, S.hasB, S.reg, S.regOk, hl.1, hl.2]
  simp
  grind

theorem standsFrom_spec (xs : List S.Item) (lab : ByteArray) : ∀ (f i : Nat), i + f = xs.length →
    (S.standsFrom xs lab f i = -1 ∧ ∀ (j : Nat) (x : S.Item), i ≤ j → xs[j]? = some x → ¬ (x.kind = 2 ∧ x.label = lab)) ∨
    ∃ (j : Nat) (x : S.Item), S.standsFrom xs lab f i = j ∧ i ≤ j ∧ xs[j]? = some x ∧ x.kind = 2 ∧ x.label = lab ∧ ∀ (m : Nat) (y : S.Item), i ≤ m → m < j → xs[m]? = some y → ¬ (y.kind = 2 ∧ y.label = lab)
  | 0, i, h => by
    left
    refine ⟨rfl, fun j x hj hx => ?_⟩
    have := (List.getElem?_eq_some_iff.1 hx).1
    omega
  | f + 1, i, h => by
    have hi : i < xs.length := by omega
    have hx : xs[i]? = some xs[i] := List.getElem?_eq_getElem hi
    rw [S.standsFrom, hx]
    by_cases c : xs[i].kind = 2 ∧ xs[i].label = lab
    · right
      refine ⟨i, xs[i], by simp [c], Nat.le_refl _, hx, c.1, c.2, fun m y h1 h2 => by omega⟩
    · simp only [c, if_false]
      rcases standsFrom_spec xs lab f (i + 1) (by omega) with ⟨h1, h2⟩ | ⟨j, x, h1, h2, h3, h4, h5, h6⟩
      · left
        refine ⟨h1, fun j x hj hjx => ?_⟩
        by_cases e : j = i
        · subst e; rw [hx] at hjx; cases hjx; exact c
        · exact h2 j x (by omega) hjx
      · right
        refine ⟨j, x, h1, by omega, h3, h4, h5, fun m y hm hmj hy => ?_⟩
        by_cases e : m = i
        · subst e; rw [hx] at hy; cases hy; exact c
        · exact h6 m y (by omega) hmj hy
theorem stands_spec (xs : List S.Item) (lab : ByteArray) :
    (S.stands xs lab = -1 ∧ ∀ (j : Nat) (x : S.Item), xs[j]? = some x → ¬ (x.kind = 2 ∧ x.label = lab)) ∨
    ∃ (j : Nat) (x : S.Item), S.stands xs lab = j ∧ xs[j]? = some x ∧ x.kind = 2 ∧ x.label = lab ∧ ∀ (m : Nat) (y : S.Item), m < j → xs[m]? = some y → ¬ (y.kind = 2 ∧ y.label = lab) := by
  rcases standsFrom_spec xs lab xs.length 0 (by omega) with ⟨h1, h2⟩ | ⟨j, x, h1, _, h3, h4, h5, h6⟩
  · exact .inl ⟨h1, fun j x hx => h2 j x (Nat.zero_le _) hx⟩
  · exact .inr ⟨j, x, h1, h3, h4, h5, fun m y hm hy => h6 m y (Nat.zero_le _) hm hy⟩

theorem sizeAt_bd {xs : List S.Item} {F : List Int} (hF : S.FormOk xs F) (hw : ∀ x ∈ xs, 0 ≤ x.word ∧ x.word ≤ 4294967295) (i : Nat) : 0 ≤ S.sizeAt xs F i ∧ S.sizeAt xs F i ≤ 4294967295 := by
  unfold S.sizeAt
  split
  · omega
  · rename_i x hx
    obtain ⟨h3, h4, _⟩ := hF.2 i x hx
    obtain ⟨h5, h6⟩ := hw x (List.mem_of_getElem? hx)
    unfold S.size
    grind
theorem addr_bd {xs : List S.Item} {F : List Int} {base : Int} (hF : S.FormOk xs F) (hw : ∀ x ∈ xs, 0 ≤ x.word ∧ x.word ≤ 4294967295) : ∀ i : Nat, base ≤ S.addr xs F base i ∧ S.addr xs F base i ≤ base + i * 4294967295
  | 0 => by simp [S.addr]
  | i + 1 => by
    obtain ⟨h1, h2⟩ := addr_bd hF hw (base := base) i
    obtain ⟨h3, h4⟩ := sizeAt_bd hF hw i
    simp only [S.addr]
    omega

end Go.Proofs.YtlldagdhlfpihaaGreatDoor
end

section
set_option linter.unusedVariables false
set_option linter.unusedSimpArgs false
set_option linter.unusedSectionVars false
namespace Go.Proofs.YtlldagdhlfpihaaGreatDoor
namespace S

/-- An expression: operation, number, name, operands. -/
inductive BE where
  | mk (op n : Int) (name : ByteArray) (kids : List BE)
/-- A statement. -/
inductive BS where
  | mk (op n : Int) (name : ByteArray) (exprs : List BE) (regs : List Int) (body els : List BS)
structure BR where
  name : ByteArray
  params : Int
  locals : Int
  behind : Bool
  body : List BS

namespace BE
def op : BE → Int | .mk o _ _ _ => o
def n : BE → Int | .mk _ n _ _ => n
def name : BE → ByteArray | .mk _ _ s _ => s
def kids : BE → List BE | .mk _ _ _ k => k
end BE
namespace BS
def op : BS → Int | .mk o _ _ _ _ _ _ => o
def n : BS → Int | .mk _ n _ _ _ _ _ => n
def name : BS → ByteArray | .mk _ _ s _ _ _ _ => s
def exprs : BS → List BE | .mk _ _ _ e _ _ _ => e
def regs : BS → List Int | .mk _ _ _ _ r _ _ => r
def body : BS → List BS | .mk _ _ _ _ _ b _ => b
def els : BS → List BS | .mk _ _ _ _ _ _ e => e
end BS

/-! What may be -/
def visB (n : Int) : Bool := decide ((1 ≤ n ∧ n ≤ 10) ∨ n = 26 ∨ n = 27 ∨ n = 29 ∨ n = 30)
def dotted (s : ByteArray) : Bool := s.data.toList.head? == some 46
def labB (s : ByteArray) : Bool := decide (s.size ≠ 0) && !dotted s
def offB (n : Int) : Bool := decide (-32768 ≤ n ∧ n < 32768)

def numE (L : Int) (op n : Int) : Bool :=
  if op = 1 then decide (-2147483648 ≤ n ∧ n ≤ 4294967295) else if op = 2 then decide (0 ≤ n ∧ n < L) else if op = 3 then visB n
  else if op = 4 then decide (1 ≤ n ∧ n ≤ 14) else if op = 5 then offB n else decide (n = 0)
def kidsE (op : Int) (k : Nat) : Nat := if op = 4 ∨ op = 7 then 2 else if op = 5 then 1 else if op = 6 then min k 4 else 0
def namedE (op : Int) : Bool := decide (op = 6 ∨ op = 9)
/-- May an expression be, but for its operands? -/
def headE (L : Int) (op n : Int) (name : ByteArray) (k : Nat) : Bool :=
  decide (1 ≤ op ∧ op ≤ 10) && numE L op n && decide (k = kidsE op k) && (namedE op == decide (name.size ≠ 0)) && (!namedE op || labB name)
mutual
def formedE (L : Int) : BE → Bool
  | .mk op n name kids => headE L op n name kids.length && formedEs L kids
def formedEs (L : Int) : List BE → Bool
  | [] => true
  | e :: r => formedE L e && formedEs L r
end
mutual
def needE : BE → Nat
  | .mk _ _ _ kids => needEs kids 0
/-- Of expressions that stand from a register on. -/
def needEs : List BE → Nat → Nat
  | [], _ => 0
  | e :: r, i => max (i + max 1 (needE e)) (needEs r (i + 1))
end
def risingB : List Int → Bool
  | [] => true
  | [a] => visB a
  | a :: b :: r => visB a && decide (a < b) && risingB (b :: r)

def numS (L : Int) (op n : Int) : Bool := if op = 1 then decide (0 ≤ n ∧ n < L) else if op = 2 then offB n else if op = 9 then visB n else decide (n = 0)
def exprsS (op : Int) (regs : Nat) : Nat := if op = 2 then 2 else if op = 5 then regs else if op = 10 then 0 else 1
def namedS (op : Int) : Bool := decide (op = 10)
def bodiesS (op : Int) : Int := if op = 3 then 2 else if op = 4 then 1 else 0
def shapedS (L : Int) (op n : Int) (name : ByteArray) (exprs : Nat) (regs : List Int) (body els : Nat) : Bool :=
  decide (1 ≤ op ∧ op ≤ 11) && (decide (op = 5) || decide (regs.length = 0)) && risingB regs && (decide (1 ≤ bodiesS op) || decide (body = 0)) && (decide (2 ≤ bodiesS op) || decide (els = 0)) &&
    numS L op n && decide (exprs = exprsS op regs.length) && (namedS op == decide (name.size ≠ 0)) && (!namedS op || labB name)
mutual
def chkS (L : Int) : BS → Nat → Int
  | .mk op n name exprs regs body els, depth =>
    if !(shapedS L op n name exprs.length regs body.length els.length && formedEs L exprs) then 4
    else if 200 ≤ depth ∨ 14 < needEs exprs 0 then 5
    else if chkSs L body (depth + 1) ≠ 0 then chkSs L body (depth + 1) else chkSs L els (depth + 1)
/-- The first error of statements; 0: none. -/
def chkSs (L : Int) : List BS → Nat → Int
  | [], _ => 0
  | s :: r, depth => if chkS L s depth ≠ 0 then chkS L s depth else chkSs L r depth
end
def chkB (r : BR) : Int :=
  if !labB r.name || decide (r.params < 0) || decide (4 < r.params) || decide (r.locals < r.params) || decide (200 < r.locals) then 2 else chkSs r.locals r.body 0
def frameB (r : BR) : Int := if chkB r ≠ 0 then 0 else r.locals + 15

/-! Its items -/
def bNo : ByteArray := ⟨#[]⟩
def bI (op d a b imm : Int) : Item := ⟨1, ⟨op, d, a, b, imm⟩, bNo, 0⟩
def bL (s : ByteArray) : Item := ⟨2, ⟨0, 0, 0, 0, 0⟩, s, 0⟩
def bJ (d : Int) (s : ByteArray) : Item := ⟨4, ⟨0, d, 0, 0, 0⟩, s, 0⟩
def bU (a : Int) (s : ByteArray) : Item := ⟨3, ⟨26, 0, a, 0, 0⟩, s, 0⟩
def bA (d : Int) (s : ByteArray) : Item := ⟨5, ⟨0, d, 0, 0, 0⟩, s, 0⟩
def bLab (n : Int) : ByteArray := ⟨(46 :: itoa n).toArray⟩
def bLoad (fr d place : Int) : Item := bI 24 d 28 0 (place - fr)
def bStore (fr b place : Int) : Item := bI 25 0 28 b (place - fr)
def bMove (d a : Int) : Item := bI 15 d a 0 0
def bConst (d n : Int) : List Item := if -32768 ≤ n ∧ n < 32768 then [bI 15 d 0 0 n] else [bI 23 d 0 0 (n % 4294967296 / 65536), bI 17 d d 0 (n % 4294967296 % 65536)]
def bStores (fr L : Int) : Nat → List Item
  | 0 => []
  | k + 1 => bStores fr L k ++ [bStore fr (11 + k) (1 + L + k)]
def bLoads (fr L : Int) : Nat → List Item
  | 0 => []
  | k + 1 => bLoads fr L k ++ [bLoad fr (11 + k) (1 + L + k)]
def bArgs (at_ : Nat) : Nat → List Item
  | 0 => []
  | k + 1 => bArgs at_ k ++ [bMove (4 + k) (11 + at_ + k)]
def bCall (fr L : Int) (name : ByteArray) (kids at_ : Nat) : List Item :=
  bStores fr L at_ ++ bArgs at_ kids ++ [bJ 31 name] ++ bLoads fr L at_ ++ [bMove (11 + at_) 4]
def bOp (fr L : Int) (op n : Int) (name : ByteArray) (kids at_ : Nat) : List Item :=
  if op = 1 then bConst (11 + at_) n else if op = 2 then [bLoad fr (11 + at_) (1 + n)] else if op = 3 then [bMove (11 + at_) n]
  else if op = 4 then [bI n (11 + at_) (11 + at_) (12 + at_) 0] else if op = 5 then [bI 24 (11 + at_) (11 + at_) 0 n]
  else if op = 6 then bCall fr L name kids at_
  else if op = 7 then [bI 9 (11 + at_) (11 + at_) (12 + at_) 0] ++ bConst (12 + at_) 1 ++ [bI 14 (11 + at_) (11 + at_) (12 + at_) 0]
  else if op = 8 then [bI 34 (11 + at_) 0 0 0] else if op = 9 then [bA (11 + at_) name] else if op = 10 then [bLoad fr (11 + at_) 0] else []
mutual
def bExpr (fr L : Int) : BE → Nat → List Item
  | .mk op n name kids, at_ => bExprs fr L kids at_ ++ bOp fr L op n name kids.length at_
def bExprs (fr L : Int) : List BE → Nat → List Item
  | [], _ => []
  | e :: r, at_ => bExpr fr L e at_ ++ bExprs fr L r (at_ + 1)
end
/-- A loop's condition. -/
def bTest (fr L : Int) : List BE → List Item
  | [] => []
  | e :: _ => bExpr fr L e 0
def bPop (fr : Int) : Item := bI 15 28 28 0 (-fr)
def bBack (fr : Int) (behind : Bool) : List Item :=
  [bPop fr, bI 24 31 28 0 0] ++ (if behind = true then [bI 24 25 31 0 0, bI 1 31 31 25 0, bI 33 0 31 0 1] else [bI 33 0 31 0 0])
def bRegs : List Int → Nat → List Item
  | [], _ => []
  | n :: r, i => bMove n (11 + i) :: bRegs r (i + 1)
mutual
/-- The items of a statement, so many labels being told; and how many are told then. -/
def bStmt (fr L : Int) (behind : Bool) : BS → Int → List Item × Int
  | .mk op n name exprs regs body els, l =>
    if op = 4 then
      ([bL (bLab (l + 1))] ++ bTest fr L exprs ++ [bU 11 (bLab (l + 2))] ++ (bStmts fr L behind body (l + 2)).1 ++ [bJ 0 (bLab (l + 1)), bL (bLab (l + 2))], (bStmts fr L behind body (l + 2)).2)
    else if op = 3 then
      (bExprs fr L exprs 0 ++ [bU 11 (bLab (l + 1))] ++ (bStmts fr L behind body (l + 2)).1 ++ [bJ 0 (bLab (l + 2)), bL (bLab (l + 1))] ++
        (bStmts fr L behind els (bStmts fr L behind body (l + 2)).2).1 ++ [bL (bLab (l + 2))], (bStmts fr L behind els (bStmts fr L behind body (l + 2)).2).2)
    else
      (bExprs fr L exprs 0 ++
        (if op = 1 then [bStore fr 11 (1 + n)] else if op = 2 then [bI 25 0 11 12 n] else if op = 5 then bRegs regs 0 ++ bBack fr behind
         else if op = 7 then [bI 35 0 11 0 0] else if op = 8 then [bI 36 0 11 0 0] else if op = 9 then [bMove n 11]
         else if op = 10 then [bPop fr, bJ 0 name] else if op = 11 then [bPop fr, bI 33 0 11 0 0] else []), l)
def bStmts (fr L : Int) (behind : Bool) : List BS → Int → List Item × Int
  | [], l => ([], l)
  | s :: r, l => ((bStmt fr L behind s l).1 ++ (bStmts fr L behind r (bStmt fr L behind s l).2).1, (bStmts fr L behind r (bStmt fr L behind s l).2).2)
end
def bParams : Nat → List Item
  | 0 => []
  | k + 1 => bParams k ++ [bI 25 0 28 (4 + k) (1 + k)]
def bHead (r : BR) : List Item := [bL r.name, bI 25 0 28 31 0] ++ bParams r.params.toNat ++ [bI 15 28 28 0 (frameB r)]
/-- The items of a routine that may be. -/
def bItems (r : BR) : List Item := bHead r ++ (bStmts (frameB r) r.locals r.behind r.body 0).1 ++ bBack (frameB r) r.behind

end S
end Go.Proofs.YtlldagdhlfpihaaGreatDoor
end
