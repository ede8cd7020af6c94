/- A region that draws its order, each order at once: what each operation leaves is told by a fact that later operations keep. -/
import Derived.Test.YtlldagdhlfpihaaGreatDoorZExt
set_option linter.unusedVariables false
set_option linter.unusedSimpArgs false
set_option linter.unusedSectionVars false
namespace Go.Proofs.YtlldagdhlfpihaaGreatDoor
open Go.RowKit

section
variable {P : Program} {ops : Array Oper} {md : Region.Mode} {Q : Exit → Act → World → Prop} {F : Nat → Value → List Value → World → Prop} {G : World → Prop} {S : Nat → World → World → Prop} {rd : Nat → List Nat} {a0 : Act}

/-- What an operation's slot holds. -/
def opLeft (o : Oper) (a : Act) : Value := match o.dst with | some d => a.tmps.getD d undef | none => undef
def opLeaves (o : Oper) (v : Value) : Value := match o.dst with | some _ => v | none => undef

/-- No guards; each slot is written once and is there; each operation waits for earlier ones. -/
def heldB (md : Region.Mode) (ops : Array Oper) (slots : Nat) : Bool :=
  (List.range ops.size).all fun i => match ops[i]? with
    | none => true
    | some o => o.guard.isNone && (match o.dst with | none => true | some d => decide (d < slots) && (List.range ops.size).all fun j => match ops[j]? with | none => true | some o' => decide (i = j) || o'.dst != some d) &&
      o.after.all fun e => !Region.binds md e || decide (e.on < i)
/-- A fact reads slots of operations that its own waits for. -/
def readsB (md : Region.Mode) (ops : Array Oper) (rd : Nat → List Nat) : Bool :=
  (List.range ops.size).all fun i => (rd i).all fun t => (List.range ops.size).any fun j => Region.waitsFor md ops i j && (match ops[j]? with | none => false | some o => o.dst == some t)

/-- What a fact reads. -/
def rds (rd : Nat → List Nat) (i : Nat) (a : Act) : List Value := (rd i).map fun t => a.tmps.getD t undef

structure Held (md : Region.Mode) (ops : Array Oper) (F : Nat → Value → List Value → World → Prop) (G : World → Prop) (rd : Nat → List Nat) (a0 : Act) (listed : Array Bool) (a : Act) (w : World) : Prop where
  ls : listed.size = ops.size
  size : a.tmps.size = a0.tmps.size
  defs : a.defers = a0.defers
  old : ∀ t, (∀ (i : Nat) (o : Oper), ops[i]? = some o → o.dst ≠ some t) → a.tmps.getD t undef = a0.tmps.getD t undef
  closed : ∀ i j, listed.getD i false = true → Region.waitsFor md ops i j = true → listed.getD j false = true
  has : ∀ (i : Nat) (o : Oper), ops[i]? = some o → listed.getD i false = true → F i (opLeft o a) (rds rd i a) w
  glob : G w

theorem heldB_op (hB : heldB md ops a0.tmps.size = true) {i : Nat} {o : Oper} (ho : ops[i]? = some o) : o.guard = none ∧ (∀ d, o.dst = some d → d < a0.tmps.size) ∧
    (∀ d j o', o.dst = some d → ops[j]? = some o' → i ≠ j → o'.dst ≠ some d) ∧ ∀ e ∈ o.after, Region.binds md e = true → e.on < i := by
  have hi := (Array.getElem?_eq_some_iff.1 ho).1
  have h := List.all_eq_true.1 hB i (List.mem_range.2 hi)
  simp only [ho, Bool.and_eq_true] at h
  obtain ⟨⟨h1, h2⟩, h3⟩ := h
  refine ⟨by simpa using h1, fun d hd => ?_, fun d j o' hd hj hne => ?_, fun e he hb => ?_⟩
  · rw [hd] at h2
    simp only [Bool.and_eq_true, decide_eq_true_eq] at h2
    exact h2.1
  · rw [hd] at h2
    simp only [Bool.and_eq_true, decide_eq_true_eq] at h2
    have h4 := List.all_eq_true.1 h2.2 j (List.mem_range.2 (Array.getElem?_eq_some_iff.1 hj).1)
    simp only [hj, Bool.or_eq_true, decide_eq_true_eq] at h4
    rcases h4 with h4 | h4
    · exact absurd h4 hne
    · simpa using h4
  · have h4 := Array.all_eq_true'.1 h3 e he
    simp only [hb, Bool.not_true, Bool.false_or, decide_eq_true_eq] at h4
    exact h4

theorem put_at {a : Act} {d : Tmp} (v : Value) (h : d < a.tmps.size) : (a.put (some d) v).tmps.getD d undef = v := by
  simp [Act.put, h]
theorem put_ne {a : Act} {dst : Option Tmp} {t : Tmp} (v : Value) (h : dst ≠ some t) : (a.put dst v).tmps.getD t undef = a.tmps.getD t undef := by
  cases dst with
  | none => rfl
  | some d =>
    have hd : d ≠ t := fun e => h (by rw [e])
    simp [Act.put, Array.getElem?_setIfInBounds_ne hd]
theorem put_size {a : Act} {dst : Option Tmp} (v : Value) : (a.put dst v).tmps.size = a.tmps.size := by
  cases dst <;> simp [Act.put]
theorem put_defs {a : Act} {dst : Option Tmp} (v : Value) : (a.put dst v).defers = a.defers := by
  cases dst <;> rfl

theorem listed_all {listed : Array Bool} (hn : listed.size = ops.size) (hB : heldB md ops a0.tmps.size = true) (hr : Region.ready md ops listed = []) : ∀ i, i < ops.size → listed.getD i false = true := by
  intro i
  induction i using Nat.strongRecOn with
  | _ i ih =>
    intro hi
    cases hl : listed.getD i false with
    | true => rfl
    | false =>
      have ho : ops[i]? = some ops[i] := Array.getElem?_eq_getElem hi
      have hmem : i ∈ Region.ready md ops listed := mem_ready.2 ⟨getD_in (by omega) hl, _, ho, fun e he hb => by
        have := (heldB_op (a0 := a0) hB ho).2.2.2 e he hb
        exact ih e.on this (by omega)⟩
      rw [hr] at hmem
      cases hmem

/-- Each operation from n on waits for each one ahead of it. -/
def tailB (md : Region.Mode) (ops : Array Oper) (n : Nat) : Bool := decide (n ≤ ops.size) && (List.range ops.size).all fun t => decide (t < n) || (List.range n).all fun i => Region.waitsFor md ops t i
def headDone (n size : Nat) : Array Bool := (List.replicate n true ++ List.replicate (size - n) false).toArray

theorem head_done {listed : Array Bool} {n : Nat} (hz : listed.size = ops.size) (hn : n ≤ ops.size) (h1 : ∀ i, i < n → listed.getD i false = true) (h2 : ∀ t, n ≤ t → listed.getD t false = false) : listed = headDone n ops.size := by
  apply Array.ext
  · simp [headDone, hz]; omega
  · intro i hi hi2
    have e : listed[i] = listed.getD i false := by simp [hi]
    rw [e]
    by_cases c : i < n
    · rw [h1 i c]; simp [headDone, List.getElem_append, c]
    · rw [h2 i (by omega)]; simp [headDone, List.getElem_append, c]

/-- What an operation leaves. -/
def OpPost (F : Nat → Value → List Value → World → Prop) (G : World → Prop) (S : Nat → World → World → Prop) (rd : Nat → List Nat) (i : Nat) (o : Oper) (a : Act) (w : World) (a' : Act) (w' : World) : Prop := ∃ v, a' = a.put o.dst v ∧ F i (opLeaves o v) (rds rd i a) w' ∧ S i w w' ∧ G w'

theorem held_step (hB : heldB md ops a0.tmps.size = true) (hR : readsB md ops rd = true) (hS : ∀ i j v r w w', i ≠ j → F j v r w → S i w w' → F j v r w')
    {listed : Array Bool} {a : Act} {w : World} (h : Held md ops F G rd a0 listed a w) {i : Nat} {o : Oper} (ho : ops[i]? = some o) (hun : listed.getD i false = false) (hall : ∀ e ∈ o.after, Region.binds md e = true → listed.getD e.on false = true)
    {a' : Act} {w' : World} (hp : OpPost F G S rd i o a w a' w') : Held md ops F G rd a0 (listed.setIfInBounds i true) a' w' ∧ (listed.setIfInBounds i true).toList.countP (fun b => !b) + 1 = listed.toList.countP (fun b => !b) := by
  obtain ⟨v, rfl, hF, hSS, hG⟩ := hp
  obtain ⟨hg, hd, hdis, hlt⟩ := heldB_op (a0 := a0) hB ho
  have his := (Array.getElem?_eq_some_iff.1 ho).1
  have hil : i < listed.size := by rw [h.ls]; exact his
  have hwl : ∀ j, Region.waitsFor md ops i j = true → listed.getD j false = true := fun j hj => by
    obtain ⟨oi, hoi, e, he, hb, hon⟩ := Region.waitsFor_spec hj
    rw [ho] at hoi
    cases hoi
    rw [← hon]
    exact hall e he hb
  have hrd : ∀ j, (j = i ∨ listed.getD j false = true) → j < ops.size → rds rd j (a.put o.dst v) = rds rd j a := fun j hj hjs => List.map_congr_left fun t ht => by
    have h1 := List.all_eq_true.1 hR j (List.mem_range.2 hjs)
    have h2 := List.all_eq_true.1 h1 t ht
    obtain ⟨k, hk, h3⟩ := List.any_eq_true.1 h2
    simp only [Bool.and_eq_true] at h3
    have hkl : listed.getD k false = true := by
      rcases hj with rfl | hj
      · exact hwl k h3.1
      · exact h.closed j k hj h3.1
    have hki : k ≠ i := fun e => by rw [e, hun] at hkl; cases hkl
    refine put_ne v fun e => ?_
    cases hok : ops[k]? with
    | none => rw [hok] at h3; simp at h3
    | some ok =>
      rw [hok] at h3
      have hdst : ok.dst = some t := by simpa using h3.2
      exact hdis t k ok e hok (Ne.symm hki) hdst
  refine ⟨⟨by simpa using h.ls, by rw [put_size]; exact h.size, by rw [put_defs]; exact h.defs, fun t ht => ?_, fun j k hj hjk => ?_, fun j oj hj hl => ?_, hG⟩, ?_⟩
  · rw [put_ne v (ht i o ho)]; exact h.old t ht
  · by_cases hij : i = j
    · subst hij
      exact getD_set_true (hwl k hjk)
    · rw [getD_set_ne false hij] at hj
      exact getD_set_true (h.closed j k hj hjk)
  · have hjs := (Array.getElem?_eq_some_iff.1 hj).1
    by_cases hij : i = j
    · subst hij
      rw [ho] at hj
      cases hj
      have e : opLeft o (a.put o.dst v) = opLeaves o v := by
        unfold opLeft opLeaves
        cases hdst : o.dst with
        | none => rfl
        | some d => exact put_at v (by rw [h.size]; exact hd d hdst)
      rw [e, hrd i (.inl rfl) his]
      exact hF
    · have hlj : listed.getD j false = true := by rw [getD_set_ne false hij] at hl; exact hl
      have e : opLeft oj (a.put o.dst v) = opLeft oj a := by
        unfold opLeft
        cases hdst : oj.dst with
        | none => rfl
        | some d => exact put_ne v fun e => hdis d j oj e hj hij hdst
      rw [e, hrd j (.inr hlj) hjs]
      exact hS i j _ _ _ _ hij (h.has j oj hj hlj) hSS
  · rw [Array.toList_setIfInBounds, List.countP_set (by simpa using hil)]
    have e : listed.toList[i]'(by simpa using hil) = false := by simpa [hil] using hun
    simp only [e, Bool.not_false, if_true, Bool.not_true]
    have hp : 0 < listed.toList.countP (fun b => !b) := List.countP_pos_iff.2 ⟨false, by rw [← e]; exact List.getElem_mem _, rfl⟩
    first | omega | (simp only [Bool.false_eq_true, not_false_eq_true, if_true, if_false]; omega)

theorem headDone_count (n size : Nat) : (headDone n size).toList.countP (fun b => !b) = size - n := by simp [headDone, List.countP_append, List.countP_replicate]

theorem wpAny_head {n : Nat} (hB : heldB md ops a0.tmps.size = true) (hR : readsB md ops rd = true) (hT : tailB md ops n = true) (hS : ∀ i j v r w w', i ≠ j → F j v r w → S i w w' → F j v r w')
    (hop : ∀ (i : Nat) (o : Oper) (a : Act) (w : World), i < n → ops[i]? = some o → (∀ (j : Nat) (oj : Oper), ops[j]? = some oj → Region.waitsFor md ops i j = true → F j (opLeft oj a) (rds rd j a) w) →
      (∀ t, (∀ (i : Nat) (o : Oper), ops[i]? = some o → o.dst ≠ some t) → a.tmps.getD t undef = a0.tmps.getD t undef) → G w → o.wp P a w (OpPost F G S rd i o a w) Q)
    (hend : ∀ (a : Act) (w : World), Held md ops F G rd a0 (headDone n ops.size) a w → wpAny P md ops Q (ops.size - n) (headDone n ops.size) a w) :
    ∀ (fuel : Nat) (listed : Array Bool) (a : Act) (w : World), Held md ops F G rd a0 listed a w → (∀ t, n ≤ t → listed.getD t false = false) → listed.toList.countP (fun b => !b) = fuel → wpAny P md ops Q fuel listed a w := by
  simp only [tailB, Bool.and_eq_true, decide_eq_true_eq] at hT
  obtain ⟨hn, hT⟩ := hT
  have hfin : ∀ (fuel : Nat) (listed : Array Bool) (a : Act) (w : World), Held md ops F G rd a0 listed a w → (∀ t, n ≤ t → listed.getD t false = false) → listed.toList.countP (fun b => !b) = fuel → (∀ i, i < n → listed.getD i false = true) → wpAny P md ops Q fuel listed a w := by
    intro fuel listed a w h ht hc hall
    have e := head_done h.ls hn hall ht
    subst e
    rw [headDone_count] at hc
    subst hc
    exact hend a w h
  intro fuel
  induction fuel with
  | zero =>
    intro listed a w h ht hc
    refine hfin 0 listed a w h ht hc fun i hi => ?_
    have hi' : i < listed.size := by rw [h.ls]; omega
    cases hl : listed.getD i false with
    | true => rfl
    | false =>
      exfalso
      have : 0 < listed.toList.countP (fun b => !b) := List.countP_pos_iff.2 ⟨false, by
        have e : listed[i] = false := by simpa [hi'] using hl
        rw [← e]
        simp, rfl⟩
      omega
  | succ fuel ih =>
    intro listed a w h ht hc
    by_cases hall : ∀ i, i < n → listed.getD i false = true
    · exact hfin _ listed a w h ht hc hall
    obtain ⟨k, hkn, hku⟩ : ∃ k, k < n ∧ listed.getD k false = false := by
      have ⟨k, hk⟩ := Classical.not_forall.1 hall
      have ⟨h1, h2⟩ := Classical.not_imp.1 hk
      exact ⟨k, h1, by simpa using h2⟩
    refine ⟨fun hr => absurd (listed_all (a0 := a0) h.ls hB hr k (by omega)) (by rw [hku]; simp), fun i hi => ?_⟩
    obtain ⟨hun, o, ho, hdeps⟩ := mem_ready.1 hi
    have his := (Array.getElem?_eq_some_iff.1 ho).1
    have hin : i < n := by
      refine Nat.lt_of_not_le fun hni => ?_
      have h1 := List.all_eq_true.1 hT i (List.mem_range.2 his)
      simp only [Bool.or_eq_true, decide_eq_true_eq] at h1
      rcases h1 with h1 | h1
      · omega
      have h2 := List.all_eq_true.1 h1 k (List.mem_range.2 hkn)
      obtain ⟨oi, hoi, e, he, hb, hon⟩ := Region.waitsFor_spec h2
      rw [ho] at hoi
      cases hoi
      have := hdeps e he hb
      rw [hon, hku] at this
      cases this
    have hg := (heldB_op (a0 := a0) hB ho).1
    have hw : Region.wanted o (yielded ops a.tmps) = true := by unfold Region.wanted; rw [hg]
    unfold wpOp
    simp only [ho, hw, if_true]
    refine Or.inl (Oper.wp_mono ?_ (hop i o a w hin ho (fun j oj hj hwt => ?_) h.old h.glob))
    · intro a' w' hp
      obtain ⟨h1, h2⟩ := held_step hB hR hS h ho (getD_both hun) hdeps hp
      exact ih _ _ _ h1 (fun t htn => by rw [getD_set_ne false (by omega)]; exact ht t htn) (by omega)
    · obtain ⟨oi, hoi, e, he, hb, hon⟩ := Region.waitsFor_spec hwt
      rw [ho] at hoi
      cases hoi
      have := hdeps e he hb
      rw [hon] at this
      exact h.has j oj hj this

theorem getD_opt (a : Array Value) (t : Nat) : a.getD t undef = a[t]?.getD undef := by simp
/-- Facts of slots. -/
def AllF (F : Nat → Value → List Value → World → Prop) (rd : Nat → List Nat) : List (Nat × Nat) → Act → World → Prop
  | [], _, _ => True
  | p :: r, a, w => F p.1 (a.tmps[p.2]?.getD undef) (rds rd p.1 a) w ∧ AllF F rd r a w
/-- Facts of operations without a slot. -/
def AllN (F : Nat → Value → List Value → World → Prop) (rd : Nat → List Nat) : List Nat → Act → World → Prop
  | [], _, _ => True
  | i :: r, a, w => F i undef (rds rd i a) w ∧ AllN F rd r a w
/-- Slots that stay. -/
def AllOld (a0 : Act) : List Nat → Act → Prop
  | [], _ => True
  | t :: r, a => a.tmps[t]?.getD undef = a0.tmps.getD t undef ∧ AllOld a0 r a
/-- Each operation, the facts and slots that it asks being there. -/
def AllSteps (P : Program) (Q : Exit → Act → World → Prop) (F : Nat → Value → List Value → World → Prop) (G : World → Prop) (S : Nat → World → World → Prop) (rd : Nat → List Nat) (a0 : Act) : Nat → List Oper → List (List (Nat × Nat) × List Nat) → Prop
  | i, o :: r, d :: dr => (∀ a w, G w → AllF F rd d.1 a w → AllOld a0 d.2 a → o.wp P a w (OpPost F G S rd i o a w) Q) ∧ AllSteps P Q F G S rd a0 (i + 1) r dr
  | _, [], _ => True
  | _, _ :: _, [] => False
def freeB (ops : Array Oper) (t : Nat) : Bool := (List.range ops.size).all fun i => match ops[i]? with | none => true | some o => o.dst != some t
/-- What is asked is there. -/
def depsB (md : Region.Mode) (ops : Array Oper) : Nat → List (List (Nat × Nat) × List Nat) → Bool
  | _, [] => true
  | i, d :: r => d.1.all (fun p => Region.waitsFor md ops i p.1 && (match ops[p.1]? with | none => false | some o => o.dst == some p.2)) && d.2.all (freeB ops) && depsB md ops (i + 1) r

theorem freeB_of {t : Nat} (h : freeB ops t = true) : ∀ (i : Nat) (o : Oper), ops[i]? = some o → o.dst ≠ some t := fun i o ho => by
  have h1 := List.all_eq_true.1 h i (List.mem_range.2 (Array.getElem?_eq_some_iff.1 ho).1)
  simpa [ho] using h1

theorem steps_at : ∀ (l : List Oper) (ds : List (List (Nat × Nat) × List Nat)) (i : Nat), AllSteps P Q F G S rd a0 i l ds → depsB md ops i ds = true → ∀ (k : Nat) (o : Oper) (a : Act) (w : World), l[k]? = some o →
    (∀ (j : Nat) (oj : Oper), ops[j]? = some oj → Region.waitsFor md ops (i + k) j = true → F j (opLeft oj a) (rds rd j a) w) →
    (∀ t, (∀ (i : Nat) (o : Oper), ops[i]? = some o → o.dst ≠ some t) → a.tmps.getD t undef = a0.tmps.getD t undef) → G w →
    o.wp P a w (OpPost F G S rd (i + k) o a w) Q
  | [], ds, i, _, _, k, o, a, w, hk, _, _, _ => by simp at hk
  | o' :: l, [], i, h, _, k, o, a, w, hk, _, _, _ => absurd h (by simp [AllSteps])
  | o' :: l, d :: ds, i, h, hd, k, o, a, w, hk, hF, hO, hG => by
    rw [AllSteps] at h
    simp only [depsB, Bool.and_eq_true] at hd
    obtain ⟨⟨hd1, hd2⟩, hd3⟩ := hd
    cases k with
    | zero =>
      simp at hk
      subst hk
      refine h.1 a w hG ?_ ?_
      · clear h hd3 hd2
        generalize d.1 = q at hd1
        induction q with
        | nil => trivial
        | cons p r ih =>
          simp only [List.all_cons, Bool.and_eq_true] at hd1
          refine ⟨?_, ih hd1.2⟩
          cases hp : ops[p.1]? with
          | none => rw [hp] at hd1; simp at hd1
          | some oj =>
            rw [hp] at hd1
            have hdst : oj.dst = some p.2 := by simpa using hd1.1.2
            have := hF p.1 oj hp hd1.1.1
            unfold opLeft at this
            rw [hdst] at this
            simp only [getD_opt] at this
            exact this
      · clear h hd3 hd1
        generalize d.2 = q at hd2
        induction q with
        | nil => trivial
        | cons t r ih =>
          simp only [List.all_cons, Bool.and_eq_true] at hd2
          exact ⟨by rw [← getD_opt]; exact hO t (freeB_of hd2.1), ih hd2.2⟩
    | succ k =>
      have e : i + (k + 1) = i + 1 + k := by omega
      rw [e]
      rw [e] at hF
      exact steps_at l ds (i + 1) h.2 hd3 k o a w (by simpa using hk) hF hO hG

def endsB (ops : Array Oper) (n : Nat) (fs : List (Nat × Nat)) (ns : List Nat) (os : List Nat) : Bool :=
  fs.all (fun p => decide (p.1 < n) && match ops[p.1]? with | none => false | some o => o.dst == some p.2) && ns.all (fun i => decide (i < n) && match ops[i]? with | none => false | some o => o.dst == none) && os.all (freeB ops)
end

def putAll (a0 : Act) (a : Act) (ds : List Nat) : Act := ds.foldl (fun b d => b.put (some d) (a.tmps.getD d undef)) a0
/-- A frame of which only some slots were written. -/
theorem act_puts {ops : Array Oper} {a a0 : Act} {slots : Nat} (ds : List Nat) (hz : a0.tmps.size = slots) (hsz : a.tmps.size = a0.tmps.size) (hdf : a.defers = a0.defers) (hold : ∀ t, freeB ops t = true → a.tmps.getD t undef = a0.tmps.getD t undef)
    (hds : ((List.range slots).all fun t => freeB ops t || ds.contains t) = true) (hnd : ds.Nodup) (hin : (ds.all fun d => decide (d < slots)) = true) : a = putAll a0 a ds := by
  subst hz
  have key : ∀ (ds : List Nat) (b : Act), b.tmps.size = a0.tmps.size → b.defers = a0.defers → ds.Nodup → (∀ d ∈ ds, d < a0.tmps.size) →
      (ds.foldl (fun b d => b.put (some d) (a.tmps.getD d undef)) b).tmps.size = a0.tmps.size ∧ (ds.foldl (fun b d => b.put (some d) (a.tmps.getD d undef)) b).defers = a0.defers ∧
      (∀ t, t ∈ ds → (ds.foldl (fun b d => b.put (some d) (a.tmps.getD d undef)) b).tmps.getD t undef = a.tmps.getD t undef) ∧ ∀ t, t ∉ ds → (ds.foldl (fun b d => b.put (some d) (a.tmps.getD d undef)) b).tmps.getD t undef = b.tmps.getD t undef := by
    intro ds
    induction ds with
    | nil => intro b h1 h2 _ _; exact ⟨h1, h2, fun t ht => (by cases ht), fun t _ => rfl⟩
    | cons d r ih =>
      intro b h1 h2 hn hd
      obtain ⟨hn1, hn2⟩ := List.nodup_cons.1 hn
      obtain ⟨k1, k2, k3, k4⟩ := ih (b.put (some d) (a.tmps.getD d undef)) (by rw [put_size]; exact h1) (by rw [put_defs]; exact h2) hn2 (fun x hx => hd x (List.mem_cons_of_mem _ hx))
      refine ⟨k1, k2, fun t ht => ?_, fun t ht => ?_⟩
      · rcases List.mem_cons.1 ht with rfl | ht
        · rw [List.foldl_cons, k4 t hn1]
          exact put_at _ (by rw [h1]; exact hd t List.mem_cons_self)
        · exact k3 t ht
      · rw [List.foldl_cons, k4 t (fun h => ht (List.mem_cons_of_mem _ h))]
        exact put_ne _ (fun e => ht (by cases e; exact List.mem_cons_self))
  have hin' : ∀ d ∈ ds, d < a0.tmps.size := fun d hd => by
    have := List.all_eq_true.1 hin d hd
    simpa using this
  obtain ⟨k1, k2, k3, k4⟩ := key ds a0 rfl rfl hnd hin'
  have et : a.tmps = (putAll a0 a ds).tmps := by
    apply Array.ext
    · show a.tmps.size = (ds.foldl _ a0).tmps.size
      rw [hsz, k1]
    · intro i hi hi2
      have e1 : a.tmps[i] = a.tmps.getD i undef := by simp [hi]
      have e2 : (putAll a0 a ds).tmps[i] = (putAll a0 a ds).tmps.getD i undef := by simp [hi2]
      rw [e1, e2]
      by_cases c : i ∈ ds
      · exact (k3 i c).symm
      · have h1 := List.all_eq_true.1 hds i (List.mem_range.2 (by omega))
        simp only [Bool.or_eq_true] at h1
        rcases h1 with h1 | h1
        · exact (hold i h1).trans (k4 i c).symm
        · exact absurd (by simpa using h1) c
  have ed : a.defers = (putAll a0 a ds).defers := by rw [hdf]; exact k2.symm
  cases a
  cases h : putAll a0 _ ds
  rw [h] at et ed
  simp only at et ed
  rw [et, ed]

/-- A region whose first n operations come in any order, each for itself, the others behind all of them. -/
theorem wp_region_held {P : Program} {id : Nat} {Q : Exit → Act → World → Prop} {a0 : Act} {w0 : World} {l : List Oper} (n : Nat) (F : Nat → Value → List Value → World → Prop) (G : World → Prop) (S : Nat → World → World → Prop) (rd : Nat → List Nat)
    (ds : List (List (Nat × Nat) × List Nat)) (fs : List (Nat × Nat)) (ns os : List Nat) {slots : Nat} (hz : a0.tmps.size = slots) (hm : P.follows .mixedOrders = true) (hB : heldB .any l.toArray slots = true) (hR : readsB .any l.toArray rd = true) (hT : tailB .any l.toArray n = true)
    (hD : depsB .any l.toArray 0 ds = true) (hE : endsB l.toArray n fs ns os = true)
    (hS : ∀ i j v r w w', i ≠ j → F j v r w → S i w w' → F j v r w') (hG : G w0.drew) (hop : AllSteps P Q F G S rd a0 0 (l.take n) ds)
    (hend : ∀ a w, G w → AllF F rd fs a w → AllN F rd ns a w → AllOld a0 os a → a.tmps.size = a0.tmps.size → a.defers = a0.defers → (∀ t, freeB l.toArray t = true → a.tmps.getD t undef = a0.tmps.getD t undef) →
      wpAny P .any l.toArray Q (l.toArray.size - n) (headDone n l.toArray.size) a w) : (Code.region id l.toArray true).wp P Q a0 w0 := by
  subst hz
  refine wp_region_any hm ?_
  have hn : n ≤ l.toArray.size := by
    simp only [tailB, Bool.and_eq_true, decide_eq_true_eq] at hT
    exact hT.1
  have hrep : ∀ i, (Array.replicate l.toArray.size false).getD i false = false := fun i => by
    simp only [Array.getD_eq_getD_getElem?, Array.getElem?_replicate]
    split <;> rfl
  refine wpAny_head (F := F) (G := G) (S := S) (rd := rd) (a0 := a0) (n := n) hB hR hT hS (fun i o a w hi ho hF hO hG => ?_) (fun a w h => ?_) _ _ _ _ ⟨by simp, rfl, rfl, fun _ _ => rfl, fun i j hl => ?_, fun i o ho hl => ?_, hG⟩ (fun t _ => hrep t) ?_
  · have := steps_at (md := .any) (ops := l.toArray) (l.take n) ds 0 hop hD i o a w (by rw [List.getElem?_take, if_pos hi]; simpa using ho) (by rw [Nat.zero_add]; exact hF) hO hG
    rw [Nat.zero_add] at this
    exact this
  · simp only [endsB, Bool.and_eq_true] at hE
    obtain ⟨⟨h1, h2⟩, h3⟩ := hE
    refine hend a w h.glob ?_ ?_ ?_ h.size h.defs (fun t ht => h.old t (freeB_of ht))
    · clear h2 h3 hend
      induction fs with
      | nil => trivial
      | cons p r ih =>
        simp only [List.all_cons, Bool.and_eq_true, decide_eq_true_eq] at h1
        refine ⟨?_, ih h1.2⟩
        cases hp : l.toArray[p.1]? with
        | none => rw [hp] at h1; simp at h1
        | some oj =>
          rw [hp] at h1
          have hdst : oj.dst = some p.2 := by simpa using h1.1.2
          have := h.has p.1 oj hp (by simp [headDone, List.getElem?_append, h1.1.1])
          unfold opLeft at this
          rw [hdst] at this
          simp only [getD_opt] at this
          exact this
    · clear h1 h3 hend
      induction ns with
      | nil => trivial
      | cons p r ih =>
        simp only [List.all_cons, Bool.and_eq_true, decide_eq_true_eq] at h2
        refine ⟨?_, ih h2.2⟩
        cases hp : l.toArray[p]? with
        | none => rw [hp] at h2; simp at h2
        | some oj =>
          rw [hp] at h2
          have hdst : oj.dst = none := by simpa using h2.1.2
          have := h.has p oj hp (by simp [headDone, List.getElem?_append, h2.1.1])
          unfold opLeft at this
          rw [hdst] at this
          exact this
    · clear h1 h2 hend
      induction os with
      | nil => trivial
      | cons t r ih =>
        simp only [List.all_cons, Bool.and_eq_true] at h3
        exact ⟨by rw [← getD_opt]; exact h.old t (freeB_of h3.1), ih h3.2⟩
  · rw [hrep] at hl; cases hl
  · rw [hrep] at hl; cases hl
  · simp [List.countP_replicate]

end Go.Proofs.YtlldagdhlfpihaaGreatDoor
