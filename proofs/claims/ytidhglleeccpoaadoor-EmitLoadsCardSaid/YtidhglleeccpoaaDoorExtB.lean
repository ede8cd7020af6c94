/- ECkC, ExtB: joined.  A region that draws its order: its first n operations quiet in one walk; behind them the goal is the walk over what is left (wpAny), in whatever order. -/
import Derived.Test.YtidhglleeccpoaaDoorECkB
import Derived.Test.YtidhglleeccpoaaDoorEEnt
import Derived.Test.YtidhglleeccpoaaDoorExt
section
set_option linter.unusedVariables false
set_option linter.unusedSimpArgs false
set_option linter.unusedSectionVars false
namespace Go.Proofs.YtidhglleeccpoaaDoor
open Go.RowKit

def headOk (f : S.VFunc) : Prop := 0 ≤ f.slots ∧ f.slots ≤ 16777216 ∧ f.need ≤ 16777216 ∧ f.params ≤ 16777216 ∧ ¬(f.rest = true ∧ f.params < 1) ∧ 0 ≤ f.fn
theorem echk_bad {f : S.VFunc} (h : ¬ headOk f) : S.echk f = 2 := by
  unfold headOk at h
  unfold S.echk
  rw [if_neg]
  intro hh
  exact h (of_decide_eq_true ((Bool.and_eq_true _ _).mp hh).1)

set_option maxRecDepth 100000 in
set_option maxHeartbeats 4000000 in
theorem e_Check_bad (f : S.VFunc) (I : Value) (w : World) (h : ¬ headOk f) :
    Calls Tryd.prog 11 #[.agg (vfCells f I)] w fun e w' => e = .returned (.int .i64 (S.echk f)) ∧ Below w.heap.size w w' := by
  have He := Lib.hid (echk_bad h)
  obtain ⟨fn, regs, slots, need, params, rest, insts⟩ := f
  unfold headOk at h
  simp only at h
  unfold vfCells
  have hc : slots < 0 ∨ (0 ≤ slots ∧ 16777216 < slots) ∨ (0 ≤ slots ∧ slots ≤ 16777216 ∧ 16777216 < need) ∨ (0 ≤ slots ∧ slots ≤ 16777216 ∧ need ≤ 16777216 ∧ 16777216 < params) ∨
      (0 ≤ slots ∧ slots ≤ 16777216 ∧ need ≤ 16777216 ∧ params ≤ 16777216 ∧ rest = true ∧ params < 1) ∨ (0 ≤ slots ∧ slots ≤ 16777216 ∧ need ≤ 16777216 ∧ params ≤ 16777216 ∧ rest = false ∧ fn < 0) ∨ (0 ≤ slots ∧ slots ≤ 16777216 ∧ need ≤ 16777216 ∧ params ≤ 16777216 ∧ rest = true ∧ 1 ≤ params ∧ fn < 0) := by
    cases rest <;> simp_all <;> omega
  clear h
  rcases hc with h1 | ⟨h1, h2⟩ | ⟨h1, h2, h3⟩ | ⟨h1, h2, h3, h4⟩ | ⟨h1, h2, h3, h4, rfl, h5⟩ | ⟨h1, h2, h3, h4, rfl, h5⟩ | ⟨h1, h2, h3, h4, rfl, h5, h6⟩
  all_goals
    go_enter Tryd.func11, Tryd.ntmps11
    go_wp2_with fail
    go_ret
    exact ⟨by rw [He.out]; rfl, (Below.refl _ _).alloc (Nat.le_refl _) _⟩

end Go.Proofs.YtidhglleeccpoaaDoor
end

section
set_option linter.unusedVariables false
set_option linter.unusedSimpArgs false
set_option linter.unusedSectionVars false
namespace Go.Proofs.YtidhglleeccpoaaDoor
open Go.RowKit

section
variable {P : Program} {ops : Array Oper} {md : Region.Mode} {C : World → Prop}

/-- Each operation ahead of the last of the head has one that waits for it in the head; each behind it waits for the head's last or for one behind that. -/
def rootB (md : Region.Mode) (ops : Array Oper) (n : Nat) : Bool :=
  ((List.range n).all fun i => decide (i + 1 = n) || (List.range n).any fun j => decide (i < j) && Region.waitsFor md ops j i) &&
  (List.range ops.size).all fun t => decide (t < n) || (List.range t).any fun j => decide (n ≤ j + 1) && Region.waitsFor md ops t j

theorem root_last {n : Nat} {listed : Array Bool} (hB : rootB md ops n = true) (inv : HeadInv md ops n listed) (hn : n ≤ ops.size) :
    ∀ (d i : Nat), n - i = d → i < n → listed.getD i true = false → listed.getD (n - 1) true = false := by
  intro d
  induction d using Nat.strongRecOn with
  | _ d ih =>
    intro i hd hi hun
    by_cases hin : i + 1 = n
    · rw [show n - 1 = i by omega]; exact hun
    · simp only [rootB, Bool.and_eq_true] at hB
      have h1 := List.all_eq_true.1 hB.1 i (List.mem_range.2 hi)
      simp only [Bool.or_eq_true, decide_eq_true_eq] at h1
      rcases h1 with h1 | h1
      · exact absurd h1 hin
      obtain ⟨j, hj, hj2⟩ := List.any_eq_true.1 h1
      simp only [Bool.and_eq_true, decide_eq_true_eq] at hj2
      obtain ⟨oj, hoj, e, he, hb, hon⟩ := Region.waitsFor_spec hj2.2
      have hjn := List.mem_range.1 hj
      cases hl : listed.getD j false with
      | true =>
        have h2 := inv.closed j oj hoj hl e he hb
        rw [hon, getD_both hun] at h2
        cases h2
      | false => exact ih (n - j) (by omega) j rfl hjn (getD_in (by rw [inv.size]; omega) hl)

theorem root_waits {n : Nat} {listed : Array Bool} (hB : rootB md ops n = true) (inv : HeadInv md ops n listed) (hn : n ≤ ops.size) {i : Nat} (hi : i < n) (hun : listed.getD i true = false) :
    ∀ t, n ≤ t → t ∉ Region.ready md ops listed := by
  intro t ht hr
  have hlast := root_last hB inv hn _ i rfl hi hun
  obtain ⟨_, ot, hot, hall⟩ := mem_ready.1 hr
  have htlt : t < ops.size := (Array.getElem?_eq_some_iff.1 hot).1
  simp only [rootB, Bool.and_eq_true] at hB
  have h1 := List.all_eq_true.1 hB.2 t (List.mem_range.2 htlt)
  simp only [Bool.or_eq_true, decide_eq_true_eq] at h1
  rcases h1 with h1 | h1
  · omega
  obtain ⟨j, hj, hj2⟩ := List.any_eq_true.1 h1
  simp only [Bool.and_eq_true, decide_eq_true_eq] at hj2
  have hjt := List.mem_range.1 hj
  obtain ⟨o', ho', e, he, hb, hon⟩ := Region.waitsFor_spec hj2.2
  have : o' = ot := Option.some.inj (ho'.symm.trans hot)
  subst this
  have h2 := hall e he hb
  rw [hon] at h2
  by_cases hjn : j = n - 1
  · rw [hjn, getD_both hlast] at h2; cases h2
  · rw [getD_both (inv.tail j (by omega) (by omega))] at h2; cases h2

theorem headAny_firstR {n i : Nat} {oi : Oper} {v : Value} {L : Array Bool → Act → Prop} (hi : ops[i]? = some oi) (hsel : ∀ (j : Nat) (o : Oper) cs b, ops[j]? = some o → o.op ≠ .select cs b)
    (hB : rootB md ops n = true) (hn : n ≤ ops.size) (hin : i < n) (hdone : ∀ listed a, L listed a → ∀ j ∈ Region.ready md ops listed, n ≤ j) :
    ∀ (f : Nat) (listed : Array Bool) (a : Act), HeadInv md ops n listed →
      (∀ j oj, ops[j]? = some oj → j ≠ i → listed.getD j true = false → (∀ e ∈ oj.after, Region.binds md e = true → e.on ≠ i) → oi.apart ops oj = true) →
      i ∈ Region.ready md ops listed → YieldsIn P ops C oi v a →
      headAny P md ops C n L f (listed.setIfInBounds i true) (a.put oi.dst v) → headAny P md ops C n L (f + 1) listed a := by
  intro f
  induction f with
  | zero =>
    intro listed a inv _ hr hy H
    have hun := (mem_ready.1 hr).1
    refine ⟨fun h => (by rw [h] at hr; cases hr), fun j hj => ?_⟩
    have hjn : j < n := Nat.lt_of_not_le fun h => absurd hj (root_waits hB inv hn hin hun j h)
    refine ⟨hjn, ?_⟩
    by_cases hji : j = i
    · subst hji; exact hy.qOp hi H
    · exact absurd (hdone _ _ H j (ready_mono hj hji)) (by omega)
  | succ f ih =>
    intro listed a inv hfree hr hy H
    have hun := (mem_ready.1 hr).1
    refine ⟨fun h => (by rw [h] at hr; cases hr), fun j hj => ?_⟩
    have hjn : j < n := Nat.lt_of_not_le fun h => absurd hj (root_waits hB inv hn hin hun j h)
    refine ⟨hjn, ?_⟩
    by_cases hji : j = i
    · subst hji; exact hy.qOp hi H
    · have h1 := (H.2 j (ready_mono hj hji)).2
      obtain ⟨hjun, oj, hoj, hall⟩ := mem_ready.1 hj
      have hnot : ∀ e ∈ oj.after, Region.binds md e = true → e.on ≠ i := fun e he hb heq => by
        have h1 := hall e he hb
        rw [heq, getD_both hun] at h1
        cases h1
      have h2 := qOp_put hoj (hfree j oj hoj hji hjun hnot) (fun cs b => hsel i oi cs b hi) (fun cs b => hsel j oj cs b hoj) hy h1
      have hfree' : ∀ k ok, ops[k]? = some ok → k ≠ i → (listed.setIfInBounds j true).getD k true = false →
          (∀ e ∈ ok.after, Region.binds md e = true → e.on ≠ i) → oi.apart ops ok = true := fun k ok hk hki hku hno => by
        refine hfree k ok hk hki ?_ hno
        by_cases hjk : j = k
        · subst hjk; exact hjun
        · rw [getD_set_ne true hjk] at hku; exact hku
      refine qOp_mono (fun a' h3 => ih (listed.setIfInBounds j true) a' (inv.set hj hjn) hfree' (ready_mono hr (Ne.symm hji)) h3.1 ?_) h2
      rw [Array.setIfInBounds_comm _ _ hji]
      exact h3.2

def lexR (md : Region.Mode) (ops : Array Oper) (n : Nat) : Nat → Nat → Array Bool → Bool
  | 0, _, listed => (Region.ready md ops listed).all fun j => decide (n ≤ j)
  | f + 1, k, listed => (Region.ready md ops listed).contains k && Region.free md ops listed k && lexR md ops n f (k + 1) (listed.setIfInBounds k true)
def lexEnd : Nat → Nat → Array Bool → Array Bool
  | 0, _, listed => listed
  | f + 1, k, listed => lexEnd f (k + 1) (listed.setIfInBounds k true)

theorem headAny_lexR {n : Nat} {Lq : Act → Prop} (hsel : Region.noSelect ops = true) (hR : rootB md ops n = true) (hn : n ≤ ops.size) (Lf : Array Bool) (hdone : ∀ j ∈ Region.ready md ops Lf, n ≤ j) :
    ∀ (l : List Oper) (k : Nat) (listed : Array Bool) (a : Act), (∀ j, j < l.length → l[j]? = ops[k + j]?) → k + l.length = n → HeadInv md ops n listed → lexEnd l.length k listed = Lf →
    lexR md ops n l.length k listed = true → wpQuiet P ops C Lq l a →
    headAny P md ops C n (fun listed' a' => listed' = Lf ∧ Lq a') l.length listed a
  | [], k, listed, a, _, hk, _, hE, hB, h => ⟨hE, h⟩
  | o :: l, k, listed, a, hl, hk, inv, hE, hB, h => by
    have h0 : ops[k]? = some o := by simpa using (hl 0 (by simp)).symm
    simp only [List.length_cons, lexR, Bool.and_eq_true] at hB
    obtain ⟨⟨hr, hf⟩, hB'⟩ := hB
    have hkn : k < n := by simp only [List.length_cons] at hk; omega
    have hr' : k ∈ Region.ready md ops listed := by simpa using hr
    have hst : qOp P ops C k (wpQuiet P ops C Lq l) a := by unfold qOp; simp only [h0]; exact h
    obtain ⟨v, hy, hK⟩ := yieldsIn_of_qOp h0 hst
    exact headAny_firstR h0 (Region.noSelect_spec hsel) hR hn hkn (fun listed' a' hL => by rw [hL.1]; exact hdone) l.length listed a inv (Region.free_spec h0 hf) hr' hy
      (headAny_lexR hsel hR hn Lf hdone l (k + 1) _ _ (fun j hj => by have := hl (j + 1) (by simp; omega); simpa [Nat.add_assoc, Nat.add_comm 1 j] using this) (by simp only [List.length_cons] at hk; omega) (inv.set hr' hkn) hE hB' hK)
end

/-- The first n operations quiet in the worlds that hold all that w holds; the others in whatever order, behind any such world. -/
theorem wp_region_ext_any {P : Program} {id : Nat} {Q : Exit → Act → World → Prop} {a : Act} {w : World} {l : List Oper} (n : Nat) (Lf : Array Bool) (hm : P.follows .mixedOrders = true)
    (hB : (Region.noSelect l.toArray && decide (n < l.toArray.size) && rootB .any l.toArray n && lexR .any l.toArray n n 0 (Array.replicate l.toArray.size false) && decide (lexEnd n 0 (Array.replicate l.toArray.size false) = Lf) && (Region.ready .any l.toArray Lf).all fun j => decide (n ≤ j)) = true)
    (h : wpQuiet P l.toArray (fun w' => ∃ x : Ext w, w' = x.val) (fun a' => ∀ w', (∃ x : Ext w, w' = x.val) → wpAny P .any l.toArray Q (l.toArray.size - n) Lf a' w') (l.take n) a) : (Code.region id l.toArray true).wp P Q a w := by
  simp only [Bool.and_eq_true, decide_eq_true_eq] at hB
  obtain ⟨⟨⟨⟨⟨hsel, hn⟩, hR⟩, hlex⟩, hE⟩, hd⟩ := hB
  have hn' : n < l.length := by simpa using hn
  have htl : (l.take n).length = n := by simp; omega
  have inv0 : HeadInv .any l.toArray n (Array.replicate l.toArray.size false) :=
    ⟨by simp, fun j oj _ hl => (by rw [getD_replicate_false] at hl; cases hl), fun t _ ht => getD_in (by simpa using ht) (getD_replicate_false _ _)⟩
  have H := headAny_lexR (md := .any) hsel hR (Nat.le_of_lt hn) Lf (fun j hj => by simpa using List.all_eq_true.1 hd j hj) (l.take n) 0 _ a (fun j hj => by
    have hj' : j < n := by rw [htl] at hj; exact hj
    simp [hj']) (by simpa using htl) inv0 (by rw [htl]; exact hE) (by rw [htl]; exact hlex) h
  refine wp_region_any hm ?_
  have h2 := headAny_sound (Q' := Q) (g := l.toArray.size - n) (fun listed a' w' hw' hL => by
    rw [hL.1]
    exact hL.2 w' hw') _ _ _ _ (⟨⟨_, drew_ext w⟩, rfl⟩ : ∃ x : Ext w, { w with drawn := w.drawn + 1 } = x.val) H
  have e : n + (l.toArray.size - n) = l.toArray.size := by omega
  rw [htl, e] at h2
  exact h2

end Go.Proofs.YtidhglleeccpoaaDoor
end
