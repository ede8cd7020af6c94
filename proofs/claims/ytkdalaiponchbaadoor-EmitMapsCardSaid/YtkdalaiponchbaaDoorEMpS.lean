/- Plain: how the law EmitMaps goes through the items. -/
import Derived.Test.YtkdalaiponchbaaDoorEMpP
import Derived.Test.YtkdalaiponchbaaDoorEMvs
set_option linter.unusedVariables false
set_option linter.unusedSimpArgs false
set_option linter.unusedSectionVars false
namespace Go.Proofs.YtkdalaiponchbaaDoor
open Go.RowKit

def callsOf (l : List S.VInst) : List S.VInst := l.filter (fun i => decide (i.op = 67))
theorem callsOf_add (l : List S.VInst) (x : S.VInst) : callsOf (l ++ [x]) = if x.op = 67 then callsOf l ++ [x] else callsOf l := by
  unfold callsOf
  rw [List.filter_append]
  by_cases h : x.op = 67 <;> simp [h]
theorem drop_cons {α : Type} {l : List α} {i : Nat} {y : α} {r : List α} (h : l.drop i = y :: r) : l[i]? = some y ∧ l.drop (i + 1) = r ∧ i < l.length := by
  have h1 : l[i]? = some y := by
    have := congrArg List.head? h
    rwa [List.head?_drop, List.head?_cons] at this
  refine ⟨h1, ?_, (List.getElem?_eq_some_iff.1 h1).1⟩
  rw [← List.tail_drop, h]; rfl

section
variable (words : List Int) (insts : List S.VInst) (its : List S.Item)
/-- Behind a place stand items that are no words, then the items of the instructions from the k-th on. -/
def AtA (i n : Nat) : Prop := ∃ (E : List S.Item) (k : Nat), noW E ∧ its.drop i = E ++ (insts.drop k).flatMap (S.eitems words) ∧ n = (callsOf (insts.take k)).length
/-- Here stands a call's frame map. -/
def AtB (i n : Nat) (x : S.VInst) : Prop := ∃ k : Nat, insts[k]? = some x ∧ x.op = 67 ∧ its.drop i = S.eframe x.map ++ (insts.drop (k + 1)).flatMap (S.eitems words) ∧ n = (callsOf (insts.take k)).length ∧ 0 < i ∧ its[i - 1]? = some (S.iJump 31 (S.rt x.imm))

variable {words insts its}
theorem AtA.step : ∀ (d : Nat) {i n : Nat} (E : List S.Item) (k : Nat), insts.length - k = d → noW E → its.drop i = E ++ (insts.drop k).flatMap (S.eitems words) → n = (callsOf (insts.take k)).length → i < its.length →
    ∃ y, its[i]? = some y ∧ y.kind ≠ 6 ∧ (AtA words insts its (i + 1) n ∨ ∃ x, AtB words insts its (i + 1) n x) := by
  intro d
  induction d using Nat.strongRecOn with
  | _ d ih =>
    intro i n E k hd hE hdr hn hi
    cases E with
    | cons y E' =>
      obtain ⟨h1, h2, _⟩ := drop_cons (show its.drop i = y :: (E' ++ (insts.drop k).flatMap (S.eitems words)) from hdr)
      exact ⟨y, h1, hE y (by simp), Or.inl ⟨E', k, fun z hz => hE z (by simp [hz]), h2, hn⟩⟩
    | nil =>
      rw [List.nil_append] at hdr
      by_cases hk : k < insts.length
      · have hx : insts[k]? = some insts[k] := List.getElem?_eq_getElem hk
        obtain ⟨s1, s2⟩ := mv_split insts k _ hx
        generalize insts[k] = x at *
        rw [s1, List.flatMap_cons] at hdr
        have hc := callsOf_add (insts.take k) x
        rw [← s2] at hc
        by_cases h67 : x.op = 67
        · have he : S.eitems words x = S.iJump 31 (S.rt x.imm) :: S.eframe x.map := by
            unfold S.eitems
            rw [if_neg (by omega), if_neg (by omega), if_neg (by omega), if_neg (by omega), if_pos h67]
          rw [he, List.cons_append] at hdr
          obtain ⟨h1, h2, _⟩ := drop_cons hdr
          exact ⟨_, h1, by simp [S.iJump], Or.inr ⟨x, k, hx, h67, h2, hn, by omega, by rw [Nat.add_sub_cancel]; exact h1⟩⟩
        · rw [if_neg h67] at hc
          cases hit : S.eitems words x with
          | nil =>
            rw [hit, List.nil_append] at hdr
            exact ih (insts.length - (k + 1)) (by omega) [] (k + 1) rfl (fun z hz => by cases hz) (by simpa using hdr) (by rw [hc]; exact hn) hi
          | cons y E' =>
            rw [hit, List.cons_append] at hdr
            obtain ⟨h1, h2, _⟩ := drop_cons hdr
            have hw := eitems_noW words x h67
            rw [hit] at hw
            exact ⟨y, h1, hw y (by simp), Or.inl ⟨E', k + 1, fun z hz => hw z (by simp [hz]), h2, by rw [hc]; exact hn⟩⟩
      · rw [List.drop_eq_nil_of_le (show insts.length ≤ k by omega), List.flatMap_nil] at hdr
        have := congrArg List.length hdr
        rw [List.length_drop, List.length_nil] at this
        omega
theorem AtA.next {i n : Nat} (h : AtA words insts its i n) (hi : i < its.length) : ∃ y, its[i]? = some y ∧ y.kind ≠ 6 ∧ (AtA words insts its (i + 1) n ∨ ∃ x, AtB words insts its (i + 1) n x) := by
  obtain ⟨E, k, h1, h2, h3⟩ := h
  exact AtA.step _ E k rfl h1 h2 h3 hi
theorem calls_none {l : List S.VInst} (h : l.flatMap (S.eitems words) = []) : callsOf l = [] := by
  unfold callsOf
  rw [List.filter_eq_nil_iff]
  intro x hx
  intro h67
  have h67' : x.op = 67 := of_decide_eq_true h67
  have := List.flatMap_eq_nil_iff.1 h x hx
  unfold S.eitems at this
  rw [if_neg (by omega), if_neg (by omega), if_neg (by omega), if_neg (by omega), if_pos h67'] at this
  cases this
theorem AtA.done {i n : Nat} (h : AtA words insts its i n) (hi : its.length ≤ i) : n = (callsOf insts).length := by
  obtain ⟨E, k, h1, h2, h3⟩ := h
  rw [List.drop_eq_nil_of_le hi] at h2
  have h4 := (List.append_eq_nil_iff.1 h2.symm).2
  have h5 := calls_none h4
  rw [h3]
  have e : callsOf insts = callsOf (insts.take k) ++ callsOf (insts.drop k) := by
    unfold callsOf
    rw [← List.filter_append, List.take_append_drop]
  rw [e, h5, List.append_nil]
theorem AtB.word {i n : Nat} {x : S.VInst} (h : AtB words insts its i n x) : its[i]? = some (S.iWord ((S.mapLen x.map : Nat) : Int)) := by
  obtain ⟨k, h1, h2, h3, _⟩ := h
  exact (drop_cons (show its.drop i = _ :: _ from h3)).1
theorem AtB.lt {i n : Nat} {x : S.VInst} (h : AtB words insts its i n x) : i + S.mapLen x.map < its.length := by
  obtain ⟨k, h1, h2, h3, _⟩ := h
  have := congrArg List.length h3
  rw [List.length_drop, List.length_append] at this
  simp only [S.eframe, List.length_cons, List.length_map, List.length_range] at this
  omega
theorem AtB.map {i n : Nat} {x : S.VInst} (h : AtB words insts its i n x) {q : Nat} (hq : q < S.mapLen x.map) : its[i + 1 + q]? = some (S.iWord (S.mapW x.map (32 * (q : Int)) 32)) := by
  obtain ⟨k, h1, h2, h3, _⟩ := h
  have h4 : (its.drop i)[1 + q]? = its[i + 1 + q]? := by rw [List.getElem?_drop, Nat.add_assoc]
  rw [← h4, h3, List.getElem?_append_left (by simp [S.eframe]; omega)]
  simp only [S.eframe]
  rw [Nat.add_comm 1 q, List.getElem?_cons_succ, List.getElem?_map, List.getElem?_range hq]
  rfl
theorem AtB.prev {i n : Nat} {x : S.VInst} (h : AtB words insts its i n x) : 0 < i ∧ its[i - 1]? = some (S.iJump 31 (S.rt x.imm)) := by
  obtain ⟨k, h1, h2, h3, h4, h5, h6⟩ := h
  exact ⟨h5, h6⟩
theorem AtB.call {i n : Nat} {x : S.VInst} (h : AtB words insts its i n x) : (callsOf insts)[n]? = some x ∧ x ∈ insts := by
  obtain ⟨k, h1, h2, h3, h4, _⟩ := h
  have hk := (List.getElem?_eq_some_iff.1 h1).1
  obtain ⟨s1, s2⟩ := mv_split insts k x h1
  refine ⟨?_, List.mem_of_getElem? h1⟩
  have e : callsOf insts = callsOf (insts.take k) ++ (x :: callsOf (insts.drop (k + 1))) := by
    conv => lhs; rw [← List.take_append_drop k insts, s1]
    unfold callsOf
    rw [List.filter_append, List.filter_cons, if_pos (by simp [h2])]
  rw [e, h4, List.getElem?_append_right (Nat.le_refl _), Nat.sub_self]; rfl
theorem AtB.next {i n : Nat} {x : S.VInst} (h : AtB words insts its i n x) : AtA words insts its (i + 1 + S.mapLen x.map) (n + 1) := by
  obtain ⟨k, h1, h2, h3, h4, _⟩ := h
  obtain ⟨s1, s2⟩ := mv_split insts k x h1
  refine ⟨[], k + 1, (fun z hz => by cases hz), ?_, ?_⟩
  · have hl : (S.eframe x.map).length = 1 + S.mapLen x.map := by simp [S.eframe]; omega
    rw [Nat.add_assoc, ← List.drop_drop, h3, ← hl, List.drop_left, List.nil_append]
  · have hc := callsOf_add (insts.take k) x
    rw [← s2, if_pos h2] at hc
    rw [hc, List.length_append, h4]; rfl
end

end Go.Proofs.YtkdalaiponchbaaDoor
