/- Plain facts for emit.Emit; emit.Check at any function. -/
import Derived.Test.YtidhglleeccpoaaDoorECkD
import Derived.Test.YtidhglleeccpoaaDoorEEnt
set_option linter.unusedVariables false
set_option linter.unusedSimpArgs false
set_option linter.unusedSectionVars false
namespace Go.Proofs.YtidhglleeccpoaaDoor
open Go.RowKit

theorem e_Chk (f : S.VFunc) (A : Option Addr) (c : Nat) (xs : List VL) (hfi : f.insts = xs.map VL.i) (w : World) (hv : VLs w w.heap.size A xs) (hok : ∀ x ∈ xs, VOk w w.heap.size x) (hlen : xs.length ≤ 300) (hs : f.slots ≤ 60000) :
    Calls Tryd.prog 11 #[.agg (vfCells f (.slice A xs.length c))] w fun e w' => e = .returned (.int .i64 (S.echk f)) ∧ Below w.heap.size w w' := by
  by_cases h : headOk f
  · exact e_Check f A c xs hfi w hv hok hlen h hs
  · exact e_Check_bad f _ w h

theorem vform_ops {i : S.VInst} (h : S.vform (S.moved i) = true) : (1 ≤ i.op ∧ i.op ≤ 31) ∨ (64 ≤ i.op ∧ i.op ≤ 74) := by
  by_cases hm : S.moves i = true
  · have : i.op = 73 ∨ i.op = 74 := of_decide_eq_true hm
    omega
  · rw [show S.moved i = i by unfold S.moved; rw [if_neg hm]] at h
    unfold S.vform at h
    rcases (Bool.or_eq_true _ _).mp h with h | h
    · unfold S.vplain at h
      have := of_decide_eq_true ((Bool.and_eq_true _ _).mp h).1
      omega
    · have := of_decide_eq_true h
      omega
theorem echk_02 (f : S.VFunc) : S.echk f = 0 ∨ S.echk f = 2 := by
  unfold S.echk S.vchk
  split
  · split
    · exact Or.inl rfl
    · exact Or.inr rfl
  · exact Or.inr rfl
theorem echk_facts {f : S.VFunc} (h : S.echk f = 0) : headOk f ∧ ∀ i ∈ f.insts, S.einst f.slots i = true ∧ ((1 ≤ i.op ∧ i.op ≤ 31) ∨ (64 ≤ i.op ∧ i.op ≤ 74)) := by
  unfold S.echk at h
  split at h
  · rename_i h1
    obtain ⟨h2, h3⟩ := (Bool.and_eq_true _ _).mp h1
    have h2' := of_decide_eq_true h2
    refine ⟨h2', fun i hi => ⟨List.all_eq_true.1 h3 i hi, ?_⟩⟩
    unfold S.vchk at h
    split at h
    · rename_i h4
      obtain ⟨h5, h6⟩ := (Bool.and_eq_true _ _).mp h4
      have h7 := List.all_eq_true.1 ((Bool.and_eq_true _ _).mp h5).2 (S.moved i) (List.mem_map.2 ⟨i, hi, rfl⟩)
      unfold S.vinst at h7
      simp only [Bool.and_eq_true] at h7
      exact vform_ops h7.1.1.1.1.1
    · cases h
  · cases h
theorem einst_facts {slots : Int} {i : S.VInst} (h : S.einst slots i = true) : S.rising i.map = true ∧ (∀ s ∈ i.map, 0 ≤ s ∧ s < slots) ∧ (i.op = 73 ∨ i.op = 74 → 0 ≤ i.imm ∧ i.imm < slots) := by
  unfold S.einst at h
  simp only [Bool.and_eq_true] at h
  obtain ⟨⟨⟨⟨h1, h2⟩, h3⟩, h4⟩, h5⟩ := h
  refine ⟨h4, fun s hs => of_decide_eq_true (List.all_eq_true.1 h3 s hs), fun ho => ?_⟩
  rcases (Bool.or_eq_true _ _).mp h5 with h | h
  · have : S.moves i = true := decide_eq_true ho
    rw [this] at h; cases h
  · exact of_decide_eq_true h

theorem mapLen_le {l : List Int} (h : ∀ s ∈ l, 0 ≤ s ∧ s < 60000) : S.mapLen l ≤ 1875 := by
  unfold S.mapLen
  split
  · omega
  · rename_i s hs
    have := h s (List.mem_of_getLast? hs)
    omega
theorem etail_len (n : Int) : (S.etail n).length ≤ 4 := by
  unfold S.etail
  split <;> simp
theorem ite_len {α : Type} {c : Prop} [Decidable c] {a b : List α} {B : Nat} (h1 : a.length ≤ B) (h2 : b.length ≤ B) : (if c then a else b).length ≤ B := by
  split <;> assumption
theorem eitems_lenB (B : Nat) (hB : 2000 ≤ B) (words : List Int) (i : S.VInst) (h : ∀ s ∈ i.map, 0 ≤ s ∧ s < 60000) : (S.eitems words i).length ≤ B := by
  have h1 := mapLen_le h
  have h2 := etail_len i.imm
  have h3 := eload_len i.d (S.u32 i.imm)
  have h4 := eload_len i.d (words.getD i.imm.toNat 0)
  have h5 := eslot_len i.imm
  have hn : ([] : List S.Item).length ≤ B := Nat.zero_le _
  have hx : ∀ x : S.Item, [x].length ≤ B := fun x => by rw [List.length_singleton]; omega
  have hy : ∀ x y : S.Item, [x, y].length ≤ B := fun x y => by simp only [List.length_cons, List.length_nil]; omega
  have hf : ∀ x : S.Item, (x :: S.eframe i.map).length ≤ B := fun x => by simp only [S.eframe, List.length_cons, List.length_map, List.length_range]; omega
  have ha : ∀ x : S.Item, ((S.eslot i.imm).1 ++ [x]).length ≤ B := fun x => by rw [List.length_append, List.length_singleton]; omega
  unfold S.eitems
  exact ite_len (hx _) (ite_len (ite_len hn (hx _)) (ite_len (hx _) (ite_len (hx _) (ite_len (hf _) (ite_len (by omega) (ite_len (by omega) (ite_len (hy _ _) (ite_len (by omega) (ite_len (hx _) (ite_len (ha _) (ite_len (ha _) (hx _))))))))))))
theorem eitems_len (words : List Int) (i : S.VInst) (h : ∀ s ∈ i.map, 0 ≤ s ∧ s < 60000) : (S.eitems words i).length ≤ 2000 := eitems_lenB 2000 (Nat.le_refl _) words i h
theorem flat_len (words : List Int) (l : List S.VInst) (h : ∀ i ∈ l, ∀ s ∈ i.map, 0 ≤ s ∧ s < 60000) : (l.flatMap (S.eitems words)).length ≤ 2000 * l.length := by
  induction l with
  | nil => simp
  | cons i l ih =>
    have h1 := eitems_len words i (h i (by simp))
    have h2 := ih fun j hj => h j (by simp [hj])
    rw [List.flatMap_cons, List.length_append, List.length_cons]
    omega
theorem eentry_len (f : S.VFunc) : (S.eentry f).length ≤ 20 := by
  unfold S.eentry
  have h1 := eload_len 3 (S.u32 (f.params - 1))
  have h2 := eload_len 3 (S.u32 f.params)
  have h3 := eload_len 3 (S.u32 f.need)
  simp only []
  split <;> (try split) <;> simp only [List.length_append, List.length_cons, List.length_nil] <;> omega
theorem eitems_branch (words : List Int) (i : S.VInst) (h : 26 ≤ i.op ∧ i.op ≤ 31) : S.eitems words i = [S.iBranch i.op i.a i.b (S.own i.label)] := by
  unfold S.eitems; rw [if_pos h]
theorem eitems_plain (words : List Int) (i : S.VInst) (h : i.op < 26) : S.eitems words i = [S.iInst i.op i.d i.a i.b i.imm] := by
  unfold S.eitems
  rw [if_neg (by omega), if_neg (by omega), if_neg (by omega), if_neg (by omega), if_neg (by omega), if_neg (by omega), if_neg (by omega), if_neg (by omega), if_neg (by omega), if_neg (by omega), if_neg (by omega), if_neg (by omega)]
theorem emitE_chk {f : S.VFunc} {words : List Int} (h : S.echk f ≠ 0) : S.emitE f words = 2 := by
  unfold S.emitE; rw [if_neg (fun hh => h hh.1)]
theorem emitE_data {f : S.VFunc} {words : List Int} {i : S.VInst} (hi : i ∈ f.insts) (h : S.dataOk words i = false) : S.emitE f words = 2 := by
  unfold S.emitE
  rw [if_neg]
  intro hh
  have := List.all_eq_true.1 hh.2 i hi
  rw [h] at this; cases this
theorem emitE_ok {f : S.VFunc} {words : List Int} (h : S.echk f = 0) (hd : ∀ i ∈ f.insts, S.dataOk words i = true) : S.emitE f words = 0 := by
  unfold S.emitE; rw [if_pos ⟨h, List.all_eq_true.2 hd⟩]
theorem emit_bad {f : S.VFunc} {words : List Int} (h : S.emitE f words = 2) : S.emitName f words = S.noLab ∧ S.emitItems f words = [] := by
  unfold S.emitName S.emitItems
  rw [h]
  exact ⟨rfl, rfl⟩
theorem emit_good {f : S.VFunc} {words : List Int} (h : S.emitE f words = 0) : S.emitName f words = S.lab [102, 117, 110] f.fn ∧ S.emitItems f words = S.eentry f ++ f.insts.flatMap (S.eitems words) := by
  unfold S.emitName S.emitItems
  rw [h]
  exact ⟨rfl, rfl⟩

end Go.Proofs.YtidhglleeccpoaaDoor
