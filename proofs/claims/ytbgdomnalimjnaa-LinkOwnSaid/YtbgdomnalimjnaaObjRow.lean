/- Arguments that are slices of objects, opened. -/
import Derived.Test.YtbgdomnalimjnaaAsmRow
import Derived.Test.YtbgdomnalimjnaaLinkB
import Derived.SizedLaws
set_option maxRecDepth 100000
set_option linter.unusedVariables false
set_option linter.unusedSimpArgs false
set_option linter.unusedSectionVars false
namespace Go.Proofs.Ytbgdomnalimjnaa
open Go.ChangeShapes Go.WideShapes Go.ChangeAt Go.RowKit

section
variable {H : Type} {enc : TypeId × Value → H} {w : World} {base : Nat} {spare : Nat → Bool} {held : Bool} {fuel : Nat} {cs : List Value} {x : DataW H × List MemPlace}

theorem items_cells : Try.prog.cellsOf 47 = 1 := by kernel_rfl
theorem object_cells : Try.prog.cellsOf 66 = 2 := by kernel_rfl

theorem open_items_cells (h : DataW.trod enc Try.prog w base spare held fuel 47 cs = some x) :
    ∃ (A : Option Addr) (c : Nat) (xs : List S.Item), cs = [.slice A xs.length c] ∧ Items w w.heap.size A xs ∧ (∀ (k : Nat) (x : S.Item), xs[k]? = some x → x.label.size ≤ maxLen) ∧ xs.length ≤ maxLen := by
  rcases Deep.open_slice Try.underlying47 h with ⟨hcs, _⟩ | ⟨a, n, c, m, k, D, Pl, hcs, _, hlc, hcm, hm, hx, hi⟩
  · exact ⟨none, 0, [], hcs, fun hp => by simp at hp, fun k x hk => by simp at hk, by simp⟩
  · rw [item_cells] at hi hx
    have hml : n ≤ m := by rw [hm]; split <;> omega
    have each : ∀ i, i < n → ∃ it : S.Item, (∀ j, j < 8 → w.cell? (a.add (i * 8 + j)) = ([.int .i64 it.kind, .int .i64 it.inst.op, .int .i64 it.inst.d, .int .i64 it.inst.a, .int .i64 it.inst.b, .int .i64 it.inst.imm, .string it.label, .int .u32 it.word] : List Value)[j]?) ∧ it.label.size ≤ maxLen ∧ 0 ≤ it.word ∧ it.word ≤ 4294967295 := by
      intro i hin
      obtain ⟨cs', hc, ht⟩ := hi i (by omega)
      obtain ⟨_, hcl, hat⟩ := World.cells?_some hc
      obtain ⟨it, rfl, h1, h2, h3⟩ := open_item_cells ht
      exact ⟨it, fun j hj => by rw [← Deep.add_add]; exact hat j hj, h1, h2, h3⟩
    haveI : Inhabited S.Item := ⟨⟨0, ⟨0, 0, 0, 0, 0⟩, ByteArray.empty, 0⟩⟩
    obtain ⟨f, hfi⟩ := Deep.choose_lt each
    refine ⟨some a, c, (List.range n).map f, by simpa using hcs, fun hp => ?_, fun k x hk => ?_, by simp; omega⟩
    · have hn : 0 < n := by simpa using hp
      obtain ⟨b, off, spot⟩ := a
      have h0 := (hfi 0 hn).1 0 (by omega)
      have hspot : spot = none := by simpa [Addr.add] using World.cell?_spot h0
      subst hspot
      refine ⟨b, off, rfl, ?_, fun i x hx => ?_⟩
      · rw [show (⟨b, off, none⟩ : Addr).add (0 * 8 + 0) = ⟨b, off, none⟩ by simp [Addr.add]] at h0
        exact cell_lt h0
      · have hlti : i < n := by have := (List.getElem?_eq_some_iff.1 hx).1; simpa using this
        have hxe : f i = x := by simpa [hlti] using hx
        subst hxe
        obtain ⟨hc, _, hw0, hw1⟩ := hfi i hlti
        have hc' : ∀ j, j < 8 → w.cell? ⟨b, off + i * 8 + j, none⟩ = ([.int .i64 (f i).kind, .int .i64 (f i).inst.op, .int .i64 (f i).inst.d, .int .i64 (f i).inst.a, .int .i64 (f i).inst.b, .int .i64 (f i).inst.imm, .string (f i).label, .int .u32 (f i).word] : List Value)[j]? := fun j hj => by
          rw [Nat.add_assoc, ← Go.WideShapes.add_plain]; exact hc j hj
        exact ⟨hc' 0 (by omega), hc' 1 (by omega), hc' 2 (by omega), hc' 3 (by omega), hc' 4 (by omega), hc' 5 (by omega), hc' 6 (by omega), hc' 7 (by omega), hw0, hw1⟩
    · have hltk : k < n := by have := (List.getElem?_eq_some_iff.1 hk).1; simpa using this
      have hxe : f k = x := by simpa [hltk] using hk
      subst hxe
      exact (hfi k hltk).2.1

theorem item_weight {c0 c1 c2 c3 c4 c5 c7 : Value} {lab : ByteArray} (h : DataW.trod enc Try.prog w base spare held fuel 57 [c0, c1, c2, c3, c4, c5, .string lab, c7] = some x) : lab.size ∈ x.1.weights Try.prog 57 := by
  obtain ⟨xs, n, _, hx, hl, hxl, hf⟩ := DataW.trod_struct Try.underlying57 h
  have hx4 : xs.length = 4 := hxl
  have h2 := hf 2 _ rfl
  have e1 : Try.prog.cellsOf 9 = 1 := string_cells
  have g2 : DataW.trod enc Try.prog w base spare held n 9 [.string lab] = xs[2]? := by
    have : (([c0, c1, c2, c3, c4, c5, .string lab, c7] : List Value).drop 6).take (Try.prog.cellsOf 9) = [.string lab] := by rw [e1]; rfl
    rw [← this]
    exact h2
  rw [List.getElem?_eq_getElem (by omega)] at g2
  obtain ⟨s, e, hy, _⟩ := DataW.trod_string Try.underlying9 g2
  simp only [List.cons.injEq, Value.string.injEq, and_true] at e
  subst e
  subst hx
  have hj : (xs.map (·.1))[2]? = some (.lit (.string lab.data.toList)) := by
    rw [List.getElem?_map, List.getElem?_eq_getElem (by omega)]
    simp [hy]
  simp only [DataW.weights, Try.underlying57]
  exact DataW.weights_mem_each (j := 2) (t := 9) rfl hj _ (by simp [DataW.weights])

theorem weightsAll_mem {P : Program} {e : TypeId} : ∀ {ds : List (DataW H)} {d : DataW H} {n : Nat}, d ∈ ds → n ∈ d.weights P e → n ∈ DataW.weightsAll P e ds
  | [], d, n, h, _ => by simp at h
  | d0 :: r, d, n, h, hn => by
    simp only [DataW.weightsAll, List.mem_append]
    rcases List.mem_cons.1 h with rfl | h
    · exact .inl hn
    · exact .inr (weightsAll_mem h hn)

/-- A slice of items, opened, with the form's bound on each label. -/
theorem open_items_sized {b0 : Nat} {v : Value} {d : DataW H} {ps : List MemPlace} (hval : Value.okWide Try.prog w .any b0 47 v) (h : DataW.Trod enc Try.prog w base spare held 47 v d ps) (hwt : ∀ n ∈ d.weights Try.prog 47, n ≤ reachBytes) :
    ∃ (A : Option Addr) (c : Nat) (xs : List S.Item), v = .slice A xs.length c ∧ Items w w.heap.size A xs ∧ xs.length ≤ maxLen ∧ ∀ x ∈ xs, x.label.size ≤ reachBytes := by
  obtain ⟨fuel, hf⟩ := h
  obtain ⟨A, n, c, rfl⟩ := okWide_slice Try.underlying47 hval
  rcases Deep.open_slice Try.underlying47 hf with ⟨hcs, _⟩ | ⟨a, len, cap, m, k, D, Pl, hcs, _, hlc, hcm, hm, hx, hi⟩
  · have : Value.slice A n c = .slice none 0 0 := by simpa [Value.cells] using hcs
    cases this
    exact ⟨none, 0, [], rfl, fun hp => by simp at hp, by simp, fun x hx => by simp at hx⟩
  · have : Value.slice A n c = .slice (some a) len cap := by simpa [Value.cells] using hcs
    cases this
    have hd := congrArg Prod.fst hx
    simp only at hd
    rw [item_cells] at hi hx
    have hml : n ≤ m := by rw [hm]; split <;> omega
    have each : ∀ i, i < n → ∃ it : S.Item, (∀ j, j < 8 → w.cell? (a.add (i * 8 + j)) = ([.int .i64 it.kind, .int .i64 it.inst.op, .int .i64 it.inst.d, .int .i64 it.inst.a, .int .i64 it.inst.b, .int .i64 it.inst.imm, .string it.label, .int .u32 it.word] : List Value)[j]?) ∧ it.label.size ≤ reachBytes ∧ 0 ≤ it.word ∧ it.word ≤ 4294967295 := by
      intro i hin
      obtain ⟨cs', hc, ht⟩ := hi i (by omega)
      obtain ⟨_, hcl, hat⟩ := World.cells?_some hc
      obtain ⟨it, rfl, h1, h2, h3⟩ := open_item_cells ht
      have hwi := item_weight ht
      refine ⟨it, fun j hj => by rw [← Deep.add_add]; exact hat j hj, hwt _ ?_, h2, h3⟩
      rw [hd]
      simp only [DataW.weights, Try.underlying47]
      exact List.mem_cons_of_mem _ (List.mem_append_left _ (weightsAll_mem (List.mem_map_of_mem (List.mem_range.2 hin)) hwi))
    haveI : Inhabited S.Item := ⟨⟨0, ⟨0, 0, 0, 0, 0⟩, ByteArray.empty, 0⟩⟩
    obtain ⟨f, hfi⟩ := Deep.choose_lt each
    refine ⟨some a, c, (List.range n).map f, by simp, fun hp => ?_, by simp; omega, fun x hxm => ?_⟩
    · have hn : 0 < n := by simpa using hp
      obtain ⟨b, off, spot⟩ := a
      have h0 := (hfi 0 hn).1 0 (by omega)
      have hspot : spot = none := by simpa [Addr.add] using World.cell?_spot h0
      subst hspot
      refine ⟨b, off, rfl, ?_, fun i x hx => ?_⟩
      · rw [show (⟨b, off, none⟩ : Addr).add (0 * 8 + 0) = ⟨b, off, none⟩ by simp [Addr.add]] at h0
        exact cell_lt h0
      · have hlti : i < n := by have := (List.getElem?_eq_some_iff.1 hx).1; simpa using this
        have hxe : f i = x := by simpa [hlti] using hx
        subst hxe
        obtain ⟨hc, _, hw0, hw1⟩ := hfi i hlti
        have hc' : ∀ j, j < 8 → w.cell? ⟨b, off + i * 8 + j, none⟩ = ([.int .i64 (f i).kind, .int .i64 (f i).inst.op, .int .i64 (f i).inst.d, .int .i64 (f i).inst.a, .int .i64 (f i).inst.b, .int .i64 (f i).inst.imm, .string (f i).label, .int .u32 (f i).word] : List Value)[j]? := fun j hj => by
          rw [Nat.add_assoc, ← Go.WideShapes.add_plain]; exact hc j hj
        exact ⟨hc' 0 (by omega), hc' 1 (by omega), hc' 2 (by omega), hc' 3 (by omega), hc' 4 (by omega), hc' 5 (by omega), hc' 6 (by omega), hc' 7 (by omega), hw0, hw1⟩
    · obtain ⟨k, hk, rfl⟩ := List.mem_map.1 hxm
      exact (hfi k (List.mem_range.1 hk)).2.1

theorem open_object_cells (h : DataW.trod enc Try.prog w base spare held fuel 66 cs = some x) :
    ∃ (o : S.Obj) (A : Option Addr) (c : Nat), cs = [.string o.name, .slice A o.items.length c] ∧ Items w w.heap.size A o.items ∧ o.name.size ≤ maxLen ∧ (∀ y ∈ o.items, y.label.size ≤ maxLen) ∧ o.items.length ≤ maxLen := by
  obtain ⟨y0, y1, n, _, hl, h0, h1⟩ := trod_struct2 Try.underlying66 h
  rw [object_cells] at hl
  match cs, hl with
  | [c0, c1], _ =>
    have g0 : DataW.trod enc Try.prog w base spare held n 9 [c0] = some y0 := by
      have e : Try.prog.cellsOf 9 = 1 := string_cells
      simpa [e] using h0
    have g1 : DataW.trod enc Try.prog w base spare held n 47 [c1] = some y1 := by
      have e : Try.prog.cellsOf 47 = 1 := items_cells
      simpa [e] using h1
    obtain ⟨s, e0, _, hs⟩ := DataW.trod_string Try.underlying9 g0
    obtain ⟨A, c, xs, e1, hI, hL, hlen⟩ := open_items_cells g1
    simp only [List.cons.injEq, and_true] at e0 e1
    subst e0 e1
    refine ⟨⟨s, xs⟩, A, c, rfl, hI, hs, fun y hy => ?_, hlen⟩
    obtain ⟨k, hk, rfl⟩ := List.getElem_of_mem hy
    exact hL k _ (List.getElem?_eq_getElem hk)

/-- A slice of objects, opened: what it holds is a list of objects. -/
theorem open_objects {b0 : Nat} {v : Value} {d : DataW H} {ps : List MemPlace} (hval : Value.okWide Try.prog w .any b0 45 v) (h : DataW.Trod enc Try.prog w base spare held 45 v d ps) :
    ∃ (A : Option Addr) (c : Nat) (os : List S.Obj), v = .slice A os.length c ∧ Objs w w.heap.size A os ∧ os.length ≤ maxLen ∧ ∀ (k : Nat) (o : S.Obj), os[k]? = some o → o.items.length ≤ maxLen := by
  obtain ⟨fuel, hf⟩ := h
  obtain ⟨A, n, c, rfl⟩ := okWide_slice Try.underlying45 hval
  rcases Deep.open_slice Try.underlying45 hf with ⟨hcs, _⟩ | ⟨a, len, cap, m, k, D, Pl, hcs, _, hlc, hcm, hm, hx, hi⟩
  · have : Value.slice A n c = .slice none 0 0 := by simpa [Value.cells] using hcs
    cases this
    exact ⟨none, 0, [], rfl, fun hp => by simp at hp, by simp, fun k x hk => by simp at hk⟩
  · have : Value.slice A n c = .slice (some a) len cap := by simpa [Value.cells] using hcs
    cases this
    rw [object_cells] at hi hx
    have hml : n ≤ m := by rw [hm]; split <;> omega
    have each : ∀ i, i < n → ∃ o : S.Obj, (w.cell? (a.add (i * 2)) = some (.string o.name) ∧ ∃ A c, w.cell? (a.add (i * 2 + 1)) = some (.slice A o.items.length c) ∧ Items w w.heap.size A o.items) ∧ o.name.size ≤ maxLen ∧ (∀ y ∈ o.items, y.label.size ≤ maxLen) ∧ o.items.length ≤ maxLen := by
      intro i hin
      obtain ⟨cs', hc, ht⟩ := hi i (by omega)
      obtain ⟨_, hcl, hat⟩ := World.cells?_some hc
      obtain ⟨o, A, c, rfl, h1, h2, h3, h4⟩ := open_object_cells ht
      refine ⟨o, ⟨?_, A, c, ?_, h1⟩, h2, h3, h4⟩
      · have := hat 0 (by omega)
        rw [Deep.add_add] at this
        simpa using this
      · have := hat 1 (by omega)
        rw [Deep.add_add] at this
        simpa using this
    haveI : Inhabited S.Obj := ⟨⟨ByteArray.empty, []⟩⟩
    obtain ⟨f, hfi⟩ := Deep.choose_lt each
    refine ⟨some a, c, (List.range n).map f, by simp, fun hp => ?_, by simp; omega, fun k x hk => ?_⟩
    · have hn : 0 < n := by simpa using hp
      obtain ⟨b, off, spot⟩ := a
      have h0 := (hfi 0 hn).1.1
      have hspot : spot = none := by simpa [Addr.add] using World.cell?_spot h0
      subst hspot
      refine ⟨b, off, rfl, ?_, fun i x hx => ?_⟩
      · rw [show (⟨b, off, none⟩ : Addr).add (0 * 2) = ⟨b, off, none⟩ by simp [Addr.add]] at h0
        exact cell_lt h0
      · have hlti : i < n := by have := (List.getElem?_eq_some_iff.1 hx).1; simpa using this
        have hxe : f i = x := by simpa [hlti] using hx
        subst hxe
        obtain ⟨⟨hc0, A, c', hc1, hI⟩, hn, hl, _⟩ := hfi i hlti
        rw [Go.WideShapes.add_plain] at hc0 hc1
        exact ⟨hc0, ⟨A, c', by rw [Nat.add_assoc]; exact hc1, hI⟩, hn, hl⟩
    · have hltk : k < n := by have := (List.getElem?_eq_some_iff.1 hk).1; simpa using this
      have hxe : f k = x := by simpa [hltk] using hk
      subst hxe
      exact (hfi k hltk).2.2.2
end

end Go.Proofs.Ytbgdomnalimjnaa
