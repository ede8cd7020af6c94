/- EVls, ECkA, ECkB: joined.  slices.Clone and slices.Compact at []int, as the check of emit meets them. -/
import Derived.Test.YtidhglleeccpoaaDoorEGrw
section
set_option linter.unusedVariables false
set_option linter.unusedSimpArgs false
set_option linter.unusedSectionVars false
namespace Go.Proofs.YtidhglleeccpoaaDoor
open Go.RowKit

/-- An instruction as it lies: what it says, where its two lists lie. -/
structure VL where
  i : S.VInst
  U : Option Addr
  cu : Nat
  M : Option Addr
  cm : Nat
def VL.cells (x : VL) : List Value := [.int .i64 x.i.op, .int .i64 x.i.d, .int .i64 x.i.a, .int .i64 x.i.b, .int .i64 x.i.imm, .int .i64 x.i.label, .slice x.U x.i.uses.length x.cu, .slice x.M x.i.map.length x.cm]
def VL.val (x : VL) : Value := .agg (viCells x.i (.slice x.U x.i.uses.length x.cu) (.slice x.M x.i.map.length x.cm))
structure VAt (w : World) (b o : Nat) (x : VL) : Prop where
  c0 : w.cell? ⟨b, o, none⟩ = some (.int .i64 x.i.op)
  c1 : w.cell? ⟨b, o + 1, none⟩ = some (.int .i64 x.i.d)
  c2 : w.cell? ⟨b, o + 2, none⟩ = some (.int .i64 x.i.a)
  c3 : w.cell? ⟨b, o + 3, none⟩ = some (.int .i64 x.i.b)
  c4 : w.cell? ⟨b, o + 4, none⟩ = some (.int .i64 x.i.imm)
  c5 : w.cell? ⟨b, o + 5, none⟩ = some (.int .i64 x.i.label)
  c6 : w.cell? ⟨b, o + 6, none⟩ = some (.slice x.U x.i.uses.length x.cu)
  c7 : w.cell? ⟨b, o + 7, none⟩ = some (.slice x.M x.i.map.length x.cm)
theorem VAt.keep {w w' : World} {b o : Nat} {x : VL} (h : VAt w b o x) (hk : ∀ o, w'.cell? ⟨b, o, none⟩ = w.cell? ⟨b, o, none⟩) : VAt w' b o x :=
  ⟨(hk _).trans h.c0, (hk _).trans h.c1, (hk _).trans h.c2, (hk _).trans h.c3, (hk _).trans h.c4, (hk _).trans h.c5, (hk _).trans h.c6, (hk _).trans h.c7⟩
def VLs (w : World) (B : Nat) (A : Option Addr) (xs : List VL) : Prop :=
  0 < xs.length → ∃ b off, A = some ⟨b, off, none⟩ ∧ b < B ∧ ∀ i x, xs[i]? = some x → VAt w b (off + i * 8) x
theorem VLs.below {w w' : World} {B : Nat} {A : Option Addr} {xs : List VL} (h : VLs w B A xs) (hb : Below B w w') : VLs w' B A xs := fun hp => by
  obtain ⟨b, off, e, hbB, hc⟩ := h hp
  exact ⟨b, off, e, hbB, fun i x hx => (hc i x hx).keep fun o => hb.cell (p := ⟨b, o, none⟩) hbB⟩
theorem VLs.more {w : World} {B B' : Nat} {A : Option Addr} {xs : List VL} (h : VLs w B A xs) (hB : B ≤ B') : VLs w B' A xs := fun hp => by
  obtain ⟨b, off, e, hbB, hc⟩ := h hp
  exact ⟨b, off, e, Nat.lt_of_lt_of_le hbB hB, hc⟩
theorem VLs.at_ {w : World} {B : Nat} {A : Option Addr} {xs : List VL} (h : VLs w B A xs) {k : Nat} (hk : k < xs.length) :
    ∃ b off x, A = some ⟨b, off, none⟩ ∧ b < B ∧ xs[k]? = some x ∧ VAt w b (off + k * 8) x := by
  obtain ⟨b, off, e, hbB, hc⟩ := h (by omega)
  exact ⟨b, off, xs[k], e, hbB, List.getElem?_eq_getElem hk, hc k _ (List.getElem?_eq_getElem hk)⟩
/-- The lists of an instruction, and the bounds. -/
structure VOk (w : World) (B : Nat) (x : VL) : Prop where
  us : Ints w B x.U x.i.uses
  mp : Ints w B x.M x.i.map
  ul : x.i.uses.length ≤ 40
  ml : x.i.map.length ≤ 40
  un : x.U = none → x.i.uses.length = 0
  mn : x.M = none → x.i.map.length = 0
  op : I64 x.i.op
  d : I64 x.i.d
  imm : I64 x.i.imm
  label : I64 x.i.label
theorem VOk.below {w w' : World} {B : Nat} {x : VL} (h : VOk w B x) (hb : Below B w w') : VOk w' B x := ⟨h.us.below hb, h.mp.below hb, h.ul, h.ml, h.un, h.mn, h.op, h.d, h.imm, h.label⟩

theorem vflat_at (L : List VL) (i : Nat) (x : VL) (h : L[i]? = some x) (j : Nat) (hj : j < 8) : (L.flatMap VL.cells)[i * 8 + j]? = x.cells[j]? := by
  induction L generalizing i with
  | nil => simp at h
  | cons q L ih =>
    cases i with
    | zero =>
      simp only [List.getElem?_cons_zero, Option.some.injEq] at h
      subst h
      rw [List.flatMap_cons, List.getElem?_append_left (by simp [VL.cells]; omega)]
      simp
    | succ i =>
      have h1 := ih i (by simpa using h)
      have e1 : (i + 1) * 8 + j = q.cells.length + (i * 8 + j) := by simp [VL.cells]; omega
      rw [List.flatMap_cons, e1, List.getElem?_append_right (by omega), Nat.add_sub_cancel_left]
      exact h1
theorem vflat_len (xs : List VL) : (xs.flatMap VL.cells).length = xs.length * 8 := by
  induction xs with
  | nil => rfl
  | cons x r ih => rw [List.flatMap_cons, List.length_append, ih]; simp [VL.cells]; omega
theorem VLs.reads {w : World} {B : Nat} {A : Option Addr} {xs : List VL} (h : VLs w B A xs) : Reads w B A (xs.flatMap VL.cells) := fun hp => by
  rw [vflat_len] at hp
  obtain ⟨b, off, e, hB, hc⟩ := h (by omega)
  refine ⟨b, off, e, hB, fun i v hv => ?_⟩
  have hlt := (List.getElem?_eq_some_iff.1 hv).1
  rw [vflat_len] at hlt
  have hx : xs[i / 8]? = some xs[i / 8] := List.getElem?_eq_getElem (by omega)
  have h1 := vflat_at xs (i / 8) _ hx (i % 8) (by omega)
  rw [show i / 8 * 8 + i % 8 = i by omega, hv] at h1
  obtain ⟨h0, h1', h2, h3, h4, h5, h6, h7⟩ := hc (i / 8) _ hx
  have hr : i % 8 = 0 ∨ i % 8 = 1 ∨ i % 8 = 2 ∨ i % 8 = 3 ∨ i % 8 = 4 ∨ i % 8 = 5 ∨ i % 8 = 6 ∨ i % 8 = 7 := by omega
  rw [show off + i = off + i / 8 * 8 + i % 8 by omega]
  rcases hr with r | r | r | r | r | r | r | r
  all_goals
    rw [r] at h1 ⊢
    simp only [VL.cells, List.getElem?_cons_zero, List.getElem?_cons_succ] at h1
    cases h1
    assumption
theorem vcells_one (xs : List VL) : ∀ u ∈ xs.flatMap VL.cells, u.oneCell' = true := by
  intro u hu
  obtain ⟨x, _, hx⟩ := List.mem_flatMap.1 hu
  simp only [VL.cells, List.mem_cons, List.not_mem_nil, or_false] at hx
  rcases hx with rfl | rfl | rfl | rfl | rfl | rfl | rfl | rfl <;> rfl
theorem VLs.of_row {w : World} {g : Nat} {cur : Array Value} {e : TypeId} {fr : Nat × Nat} {xs : List VL} (h : w.heap[g]? = some (.cells cur e fr)) (ht : cur.toList.take (xs.length * 8) = xs.flatMap VL.cells) (hg : g < w.heap.size) : VLs w w.heap.size (some ⟨g, 0, none⟩) xs := fun hp => by
  refine ⟨g, 0, rfl, hg, fun i x hx => ?_⟩
  have hi := (List.getElem?_eq_some_iff.1 hx).1
  have hc : ∀ j, j < 8 → w.cell? ⟨g, 0 + i * 8 + j, none⟩ = x.cells[j]? := by
    intro j hj
    rw [cell_of_row w g _ _ _ fr h, ← vflat_at xs i x hx j hj, ← ht, List.getElem?_take, if_pos (by omega)]
    simp
  exact ⟨hc 0 (by omega), hc 1 (by omega), hc 2 (by omega), hc 3 (by omega), hc 4 (by omega), hc 5 (by omega), hc 6 (by omega), hc 7 (by omega)⟩

theorem vinst_info : (Tryd.prog.info? 25).map (fun i => (i.zero, i.size, i.bytes)) = some (some (.agg #[.int .i64 0, .int .i64 0, .int .i64 0, .int .i64 0, .int .i64 0, .int .i64 0, .slice none 0 0, .slice none 0 0]), 8, 96) := by kernel_rfl

def VClone (xs : List VL) (w : World) (e : Ending) (w' : World) : Prop := ∃ v, e = .returned v ∧ w'.ownsRow w.heap.size 25 8 v xs.length (xs.flatMap VL.cells) ∧ Below w.heap.size w w'
set_option maxRecDepth 100000 in
set_option maxHeartbeats 1000000 in
theorem s_CloneV (A : Option Addr) (c : Nat) (xs : List VL) (w : World) (hi : VLs w w.heap.size A xs) (hl : xs.length ≤ 1048576) :
    Calls Tryd.prog 25 #[.slice A xs.length c] w (VClone xs w) := by
  have hn := fun (w : World) (A : Option Addr) (n c n1 c1 : Nat) => Lib.run_eql_slice_nil (P := Tryd.prog) w 26 25 A n c n1 c1 Tryd.underlying26
  cases A with
  | none =>
    go_enter Tryd.func25, Tryd.ntmps25
    have hx0 : xs = [] := by
      cases xs with
      | nil => rfl
      | cons x r =>
        obtain ⟨b, off, e, _⟩ := hi (by simp)
        cases e
    subst hx0
    go_wp2_with fail
    go_ret
    exact ⟨_, rfl, World.ownsRow_nil _ _ _ _, Below.refl _ _⟩
  | some a =>
    have hr := hi.reads.below ((Below.refl w.heap.size w).alloc (Nat.le_refl _) (.cells #[] 25))
    go_enter Tryd.func25, Tryd.ntmps25
    go_wp2_with (at_builtin
                 refine wpList_appendsN rfl (.tmp 5) (.tmp 6) _ rfl w.heap.size 25 vinst_info Tryd.underlying26 rfl (by decide) _ 0 [] rfl (World.ownsRow_made w #[] 0 (Nat.le_refl _) (by simp [maxLen]) (by simp)) w.heap.size (some a) xs.length c (xs.flatMap VL.cells) rfl (vflat_len xs) (fun h => by cases h) hr (vcells_one xs) (by simp only [maxLen]; omega) (by omega) (by simp) ?_
                 intro v' w1 ho1 hg1 hb1 hat1)
    go_ret
    simp only [Nat.zero_add, List.nil_append] at ho1
    exact ⟨_, rfl, ho1, ((Below.refl _ _).alloc (Nat.le_refl _) _).trans hb1⟩

end Go.Proofs.YtidhglleeccpoaaDoor
end

section
set_option linter.unusedVariables false
set_option linter.unusedSimpArgs false
set_option linter.unusedSectionVars false
namespace Go.Proofs.YtidhglleeccpoaaDoor
open Go.RowKit

theorem enters_chk1 : ∀ args w, (callFunc 24 args).run Tryd.prog w = .ok (.enter 24 args) w := enters_of Tryd.func24 (by kernel_rfl) rfl
theorem enters_chk3 : ∀ args w, (callFunc 29 args).run Tryd.prog w = .ok (.enter 29 args) w := enters_of Tryd.func29 (by kernel_rfl) rfl
set_option maxRecDepth 100000 in
set_option maxHeartbeats 1000000 in
theorem q_chk1 (fb : Nat) (slots x : Int) (W : World) (hc' : W.cell? ⟨fb, 2, none⟩ = some (.int .i64 slots)) : Calls Tryd.prog 24 #[.int .i64 x, .pointer (some ⟨fb, 0, none⟩)] W fun e w' => e = .returned (.bool (S.slotOk slots x)) ∧ w' = W := by
  have Hr := Lib.hid (show S.slotOk slots x = decide (0 ≤ x ∧ x < slots) from rfl)
  by_cases h0 : 0 ≤ x
  · by_cases h1 : x < slots
    all_goals
      have H0 := Lib.hid h0
      have H1 := Lib.hid h1
      go_enter Tryd.func24, Tryd.ntmps24
      go_wp2_with fail
      go_ret
      exact ⟨by rw [Hr.out]; simp [H0.out, H1.out], rfl⟩
  · have H0 := Lib.hid h0
    go_enter Tryd.func24, Tryd.ntmps24
    go_wp2_with fail
    go_ret
    exact ⟨by rw [Hr.out, decide_eq_false (fun h => Int.not_lt.2 h.1 H0.out)]; rfl, rfl⟩

theorem p_chk1 (B fb : Nat) (slots : Int) (w : World) (hc : w.cell? ⟨fb, 2, none⟩ = some (.int .i64 slots)) (hB : fb < B) : Pred B 24 #[.pointer (some ⟨fb, 0, none⟩)] (S.slotOk slots) w := fun W x hb =>
  (q_chk1 fb slots x W ((hb.cell (p := ⟨fb, 2, none⟩) hB).trans hc)).mono fun _ _ ⟨h1, h2⟩ => ⟨h1, by rw [h2]; exact Below.refl _ _⟩
theorem quiet_more {P : Program} {f : FuncId} {args : Array Value} {w : World} {n : Nat} {v : Value}
    (h : Calls P f args (w.drewN n) fun e w' => e = .returned v ∧ ∃ m, w' = (w.drewN n).drewN m) : Calls P f args (w.drewN n) fun e w'' => e = .returned v ∧ ∃ m, w'' = w.drewN m :=
  h.mono fun _ _ ⟨he, m, hm⟩ => ⟨he, n + m, hm.trans (World.drewN_drewN _ _ _)⟩

set_option maxRecDepth 100000 in
set_option maxHeartbeats 1000000 in
theorem p_chk3 (B fb cb : Nat) (slots : Int) (w : World) (hc : w.cell? ⟨fb, 2, none⟩ = some (.int .i64 slots)) (hB : fb < B) (hf : w.cell? ⟨cb, 0, none⟩ = some (.func (.func 24) #[] #[.pointer (some ⟨fb, 0, none⟩)])) (hB2 : cb < B) :
    Pred B 29 #[.pointer (some ⟨cb, 0, none⟩)] (fun s => !S.slotOk slots s) w := fun W x hb => by
  have hc' := (hb.cell (p := ⟨fb, 2, none⟩) hB).trans hc
  have hf' := (hb.cell (p := ⟨cb, 0, none⟩) hB2).trans hf
  have hp := p_chk1 B fb slots W hc' hB W x (Below.refl _ _)
  have eg := enters_chk1
  obtain ⟨r, hr⟩ : ∃ r, r = S.slotOk slots x := ⟨_, rfl⟩
  rw [← hr] at hp
  have Hr := Lib.hid hr
  clear hr
  have Hp := Lib.hid hp
  clear hp hc hf hc'
  show Calls Tryd.prog 29 #[.int .i64 x, .pointer (some ⟨cb, 0, none⟩)] W _
  go_enter Tryd.func29, Tryd.ntmps29
  go_wp2_with (go_at_fn 24; refine Hp.out.mono ?_; rintro e w2 ⟨rfl, hb2⟩)
  go_ret
  exact ⟨by show _ = Ending.returned (.bool (!S.slotOk slots x)); rw [← Hr.out]; rfl, hb2⟩

end Go.Proofs.YtidhglleeccpoaaDoor
end

section
set_option linter.unusedVariables false
set_option linter.unusedSimpArgs false
set_option linter.unusedSectionVars false
namespace Go.Proofs.YtidhglleeccpoaaDoor
open Go.RowKit

theorem bl_setCells {B b : Nat} (hb : B ≤ b) : ∀ (vs : List Value) (o : Nat) {a w : World}, Below B a w → Below B a (w.setCells b o vs)
  | [], _, _, _, h => h
  | v :: vs, o, _, _, h => bl_setCells hb vs (o + 1) (h.setCell (p := ⟨b, o, none⟩) hb v)

theorem s_CloneI (A : Option Addr) (l : List Int) (c : Nat) (w : World) (hA : Ints w w.heap.size A l) (hl : l.length ≤ 1000) :
    Calls Tryd.prog 32 #[.slice A l.length c] w fun e w' => (∃ A' c', e = .returned (.slice A' l.length c') ∧ w'.ownsRow w.heap.size 3 1 (.slice A' l.length c') l.length (l.map (Value.int .i64))) ∧ Below w.heap.size w w' := by
  by_cases h0 : l.length = 0
  · have hl0 := List.eq_nil_of_length_eq_zero h0
    subst hl0
    cases A with
    | none =>
      refine (Tryd.slices_Clone_int_nil 0 c w).mono ?_
      rintro e w' ⟨rfl, rfl⟩
      exact ⟨⟨none, 0, rfl, World.ownsRow_nil _ _ _ _⟩, Below.refl _ _⟩
    | some a =>
      refine (Tryd.slices_Clone_int_zero a c w).mono ?_
      rintro e w' ⟨v, rfl, h1, _, h2⟩
      obtain ⟨A', c', rfl⟩ := ownsRow_form h1
      exact ⟨⟨A', c', rfl, h1⟩, h2⟩
  · obtain ⟨b, off, rfl, hb, hc⟩ := hA (by omega)
    refine (Tryd.slices_Clone_int b off l.length c l w (Nat.le_refl _) (by omega) (fun j hj => ?_)).mono ?_
    · exact hc j _ (by simp [hj])
    · rintro e w' ⟨v, rfl, h1, _, h2⟩
      rw [List.take_length] at h1
      obtain ⟨A', c', rfl⟩ := ownsRow_form h1
      exact ⟨⟨A', c', rfl, h1⟩, h2⟩

theorem s_CompactI (base : Nat) (A : Option Addr) (l : List Int) (c : Nat) (w : World) (ho : w.ownsRow base 3 1 (.slice A l.length c) l.length (l.map (Value.int .i64))) (hl : l.length ≤ 1000) :
    Calls Tryd.prog 31 #[.slice A l.length c] w fun e w' => (∃ A' c', e = .returned (.slice A' (Lib.compact l).length c')) ∧ Below base w w' := by
  by_cases h0 : l.length = 0
  · have hl0 := List.eq_nil_of_length_eq_zero h0
    subst hl0
    refine (Tryd.slices_Compact_int_empty A c w).mono ?_
    rintro e w' ⟨rfl, rfl⟩
    exact ⟨⟨A, c, rfl⟩, Below.refl _ _⟩
  · obtain ⟨g, rfl, hg1, hg2, hg3, hg4, hg5⟩ := ownsRow_at ho (by omega)
    refine (Tryd.slices_Compact_int_cells g 0 l.length c l w (Nat.le_refl _) (by omega) hg3 (fun j hj => ?_) (fun j hj => hg5 _)).mono ?_
    · rw [hg4 _ (by omega)]
      simp [hj]
    · rintro e w' ⟨rfl, q, rfl⟩
      rw [List.take_length]
      exact ⟨⟨_, _, rfl⟩, bl_setCells hg1 _ _ (below_drewN (Below.refl _ _) _)⟩

end Go.Proofs.YtidhglleeccpoaaDoor
end
