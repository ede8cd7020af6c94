/- Walk of emit.Check: a function whose head may be. -/
import Derived.Test.YtidhglleeccpoaaDoorExtB
import Derived.Test.YtidhglleeccpoaaDoorMapI
import Derived.Test.YtidhglleeccpoaaDoorEIck
import Derived.Laws.EntriesVeiled
import Derived.Deep.CutRange
set_option linter.unusedVariables false
set_option linter.unusedSimpArgs false
set_option linter.unusedSectionVars false
namespace Go.Proofs.YtidhglleeccpoaaDoor
open Go.RowKit

theorem einst_eq (slots : Int) (i : S.VInst) : S.einst slots i = (!(([i.d, i.a, i.b] ++ i.uses).any fun r => decide (32 ≤ r)) && !(i.map.any fun s => !S.slotOk slots s) && (!S.moves i || S.slotOk slots i.imm) && upTo i.map && !decide ((Lib.compact i.map).length < i.map.length)) := by
  have h1 : (!(([i.d, i.a, i.b] ++ i.uses).any fun r => decide (32 ≤ r))) = (decide (i.d ≤ 31 ∧ i.a ≤ 31 ∧ i.b ≤ 31) && i.uses.all (fun r => decide (r ≤ 31))) := by
    rw [Bool.eq_iff_iff]
    simp only [Bool.not_eq_true', List.any_eq_false, List.mem_append, List.mem_cons, List.not_mem_nil, or_false, decide_eq_true_eq, Bool.and_eq_true, List.all_eq_true]
    constructor
    · intro h
      exact ⟨⟨by have := h i.d (by simp); omega, by have := h i.a (by simp); omega, by have := h i.b (by simp); omega⟩, fun r hr => by have := h r (Or.inr hr); omega⟩
    · rintro ⟨⟨h1, h2, h3⟩, h4⟩ r (hr | hr)
      · rcases hr with rfl | rfl | rfl <;> omega
      · have := h4 r hr; omega
  have h2 : (!(i.map.any fun s => !S.slotOk slots s)) = i.map.all (S.slotOk slots) := by
    rw [List.all_eq_not_any_not]
  rw [h1, h2]
  unfold S.einst
  rw [rising_eq]
  generalize decide (i.d ≤ 31 ∧ i.a ≤ 31 ∧ i.b ≤ 31) = a1
  generalize i.uses.all (fun r => decide (r ≤ 31)) = a2
  generalize i.map.all (S.slotOk slots) = a3
  generalize (!S.moves i || S.slotOk slots i.imm) = a4
  generalize upTo i.map = a5
  generalize decide ((Lib.compact i.map).length < i.map.length) = a6
  cases a1 <;> cases a2 <;> cases a3 <;> cases a4 <;> cases a5 <;> cases a6 <;> rfl
def CkR (w : World) (F F' : Array Value) (wl : World) : Prop := Below w.heap.size w wl ∧ wl.heap[w.heap.size]? = some (.cells F 28 (0, 0)) ∧ wl.heap[w.heap.size + 1]? = some (.cells #[.func (.func 24) #[] #[.pointer (some ⟨w.heap.size, 0, none⟩)]] 74 (0, 0)) ∧ wl.heap[w.heap.size + 2]? = some (.cells F' 28 (0, 0))
theorem CkR.lts {w : World} {F F' : Array Value} {wl : World} (h : CkR w F F' wl) : w.heap.size + 2 < wl.heap.size := by
  have := h.2.2.2
  rcases Nat.lt_or_ge (w.heap.size + 2) wl.heap.size with h' | h'
  · exact h'
  · simp [Array.getElem?_eq_none h'] at this
theorem CkR.keep {w : World} {F F' : Array Value} {wl w' : World} (h : CkR w F F' wl) (hb : Below wl.heap.size wl w') : CkR w F F' w' := by
  have hl := h.lts
  obtain ⟨h1, h2, h3, h4⟩ := h
  exact ⟨h1.trans (hb.mono h1.size), (hb.block _ (by omega)).trans h2, (hb.block _ (by omega)).trans h3, (hb.block _ (by omega)).trans h4⟩
theorem CkR.set {w : World} {F F' : Array Value} {wl : World} (h : CkR w F F' wl) {g : Nat} (hg : w.heap.size + 3 ≤ g) (o : Nat) (v : Value) : CkR w F F' (wl.setCell ⟨g, o, none⟩ v) := by
  obtain ⟨h1, h2, h3, h4⟩ := h
  refine ⟨h1.setCell (p := ⟨g, o, none⟩) (by show w.heap.size ≤ g; omega) _, ?_, ?_, ?_⟩
  · rw [Below.heap_setCell _ _ _ _ (by show w.heap.size ≠ g; omega)]; exact h2
  · rw [Below.heap_setCell _ _ _ _ (by show w.heap.size + 1 ≠ g; omega)]; exact h3
  · rw [Below.heap_setCell _ _ _ _ (by show w.heap.size + 2 ≠ g; omega)]; exact h4
theorem echk_one (f : S.VFunc) (i : S.VInst) (hi : i ∈ f.insts) (he : S.einst f.slots i = false) : S.echk f = 2 := by
  unfold S.echk
  rw [if_neg]
  intro hh
  have := List.all_eq_true.1 ((Bool.and_eq_true _ _).mp hh).2 i hi
  rw [he] at this
  cases this
theorem echk_all (f : S.VFunc) (h : headOk f) (ha : ∀ i ∈ f.insts, S.einst f.slots i = true) : S.echk f = S.vchk f.regs f.need f.slots f.params (f.insts.map S.moved) := by
  unfold S.echk
  unfold headOk at h
  rw [if_pos]
  rw [decide_eq_true h, Bool.true_and, List.all_eq_true]
  exact ha

set_option maxRecDepth 100000 in
set_option maxHeartbeats 4000000 in
theorem e_Check (f : S.VFunc) (A : Option Addr) (c : Nat) (xs : List VL) (hfi : f.insts = xs.map VL.i) (w : World) (hv : VLs w w.heap.size A xs) (hok : ∀ x ∈ xs, VOk w w.heap.size x) (hlen : xs.length ≤ 300) (h : headOk f) (hs : f.slots ≤ 60000) :
    Calls Tryd.prog 11 #[.agg (vfCells f (.slice A xs.length c))] w fun e w' => e = .returned (.int .i64 (S.echk f)) ∧ Below w.heap.size w w' := by
  have HH := Lib.hid h
  have Hall := Lib.hid (echk_all f h)
  have Hone := Lib.hid (echk_one f)
  obtain ⟨fn, regs, slots, need, params, rest, insts⟩ := f
  unfold headOk at h
  simp only at h hfi hs
  obtain ⟨h1, h2, h3, h4, h5, h6⟩ := h
  unfold vfCells
  obtain ⟨N, hN⟩ : ∃ N : Nat, N = xs.length := ⟨_, rfl⟩
  rw [← hN] at hlen ⊢
  have HN := Lib.hid hN
  clear hN
  have hr : rest = false ∨ (rest = true ∧ 1 ≤ params) := by
    cases rest
    · exact Or.inl rfl
    · exact Or.inr ⟨rfl, by simp at h5; omega⟩
  clear h5
  go_enter Tryd.func11, Tryd.ntmps11
  go_upto_region 1 with fail
  go_cut [42] (fun v42 wc => v42 = .bool false ∧ w.alloc (.cells #[.int .i64 fn, .int .i64 regs, .int .i64 slots, .int .i64 need, .int .i64 params, .bool rest, .slice A N c] 28) = wc)
  case first =>
    rcases hr with rfl | ⟨rfl, hr⟩
    all_goals
      go_wp2_with fail
      go_meet
      case rel => exact ⟨by simp; omega, rfl⟩
  case rest =>
    obtain ⟨rfl, rfl⟩ := hcut
    have hb3 : Below w.heap.size w (((w.alloc (.cells #[.int .i64 fn, .int .i64 regs, .int .i64 slots, .int .i64 need, .int .i64 params, .bool rest, .slice A N c] 28)).alloc (.cells #[.func (.func 24) #[] #[.pointer (some ⟨w.heap.size, 0, none⟩)]] 74)).alloc (.cells #[.int .i64 fn, .int .i64 regs, .int .i64 slots, .int .i64 need, .int .i64 params, .bool rest, .slice A N c] 28)) :=
      three_below w _ _ _
    have Hv := Lib.hid ((hv.below hb3).more hb3.size)
    have Hb3 := Lib.hid hb3
    have Hf0 := Lib.hid (three_cells w (.cells #[.int .i64 fn, .int .i64 regs, .int .i64 slots, .int .i64 need, .int .i64 params, .bool rest, .slice A N c] 28) (.cells #[.func (.func 24) #[] #[.pointer (some ⟨w.heap.size, 0, none⟩)]] 74) (.cells #[.int .i64 fn, .int .i64 regs, .int .i64 slots, .int .i64 need, .int .i64 params, .bool rest, .slice A N c] 28))
    have hcl := s_CloneV A c xs _ Hv.out (by rw [← HN.out]; omega)
    rw [← HN.out] at hcl
    have Hcl := Lib.hid hcl
    clear hb3 hcl
    go_wp2_with fail
    refine Hcl.out.mono ?_
    rintro e w4 ⟨v, rfl, ho, hb4⟩
    rw [← HN.out] at ho
    obtain ⟨A', c', rfl⟩ := ownsRow_form ho
    have hpb := (hb4.block (w.heap.size + 2) (by simp)).trans Hf0.out.2.2
    have c6 : w4.cell? ⟨w.heap.size + 1 + 1, 6, none⟩ = some (.slice A N c) := by (rw [show w.heap.size + 1 + 1 = w.heap.size + 2 by omega, Lib.cell_of_heap hpb]; rfl)
    have f6 : w4.frozen? ⟨w.heap.size + 1 + 1, 6, none⟩ = false := by (rw [show w.heap.size + 1 + 1 = w.heap.size + 2 by omega]; exact Lib.frozen_of_heap hpb 6)
    have Ho := Lib.hid ho
    have Hb4 := Lib.hid hb4
    have Hpb := Lib.hid hpb
    clear ho hb4 hpb
    go_wp2_with fail
    obtain ⟨w5, hw5⟩ : ∃ w5, w5 = w4.setCell ⟨w.heap.size + 1 + 1, 6, none⟩ (.slice A' N c') := ⟨_, rfl⟩
    have R5 : CkR w #[.int .i64 fn, .int .i64 regs, .int .i64 slots, .int .i64 need, .int .i64 params, .bool rest, .slice A N c] #[.int .i64 fn, .int .i64 regs, .int .i64 slots, .int .i64 need, .int .i64 params, .bool rest, .slice A' N c'] w5 := by
      have e2 : w.heap.size + 1 + 1 = w.heap.size + 2 := rfl
      rw [hw5, e2]
      have hb := Hb3.out.trans (Hb4.out.mono Hb3.out.size)
      have h0 := (Hb4.out.block w.heap.size (by simp <;> omega)).trans Hf0.out.1
      have h1 := (Hb4.out.block (w.heap.size + 1) (by simp <;> omega)).trans Hf0.out.2.1
      refine ⟨hb.setCell (p := ⟨w.heap.size + 2, 6, none⟩) (by simp) _, ?_, ?_, ?_⟩
      · rw [Below.heap_setCell _ _ _ _ (by simp)]; exact h0
      · rw [Below.heap_setCell _ _ _ _ (by simp)]; exact h1
      · rw [setCell_eq_setRow _ _ _ _ _ _ _ Hpb.out]
        exact setRow_heap w4 _ _ _ _ _ Hpb.out
    have O5 : w5.ownsRow (w.heap.size + 3) 25 8 (.slice A' N c') N (xs.flatMap VL.cells) := by
      have hn2 := own_ne Ho.out Hpb.out (by decide)
      rw [hw5]
      have := Ho.out.kept (row := some (w.heap.size + 2)) (w' := w4.setCell ⟨w.heap.size + 2, 6, none⟩ (.slice A' N c')) ⟨rfl, rfl, rfl, by simp [World.setCell], fun k _ hk => Below.heap_setCell _ _ _ _ (fun e => hk (by simp [e]))⟩ (Or.inr hn2)
      simpa using this
    have Hr5 := Lib.hid R5
    have Ho5 := Lib.hid O5
    rw [← hw5]
    clear R5 O5 hw5 c6 f6 Hpb Hb4 Ho Hcl Hf0 Hb3 Hv
    go_loopw [5, 6, 7, 8, 9, 10, 52] (fun _ _ _ _ _ _ v52 wl => ∃ k : Nat, k ≤ N ∧ v52 = .int .i64 k ∧ Hid (CkR w #[.int .i64 fn, .int .i64 regs, .int .i64 slots, .int .i64 need, .int .i64 params, .bool rest, .slice A N c] #[.int .i64 fn, .int .i64 regs, .int .i64 slots, .int .i64 need, .int .i64 params, .bool rest, .slice A' N c'] wl) ∧ Hid (wl.ownsRow (w.heap.size + 3) 25 8 (.slice A' N c') N (((xs.take k).map mvV ++ xs.drop k).flatMap VL.cells)) ∧ Hid (∀ x ∈ xs.take k, S.einst slots x.i = true)) (fun _ _ _ _ _ _ v52 _ => N - (intOf v52).toNat)
    case atStart => exact ⟨0, by omega, rfl, Hr5, Lib.hid (by simpa using Ho5.out), Lib.hid (by simp)⟩
    case round =>
      obtain ⟨k, hk, rfl, HR, HO, HE⟩ := hrel
      by_cases hlt : k < N
      · obtain ⟨g, rfl, hg1, hg2, hg3, hg4, hg5⟩ := ownsRow_at HO.out (by omega)
        have hkx : k < xs.length := by rw [← HN.out]; exact hlt
        obtain ⟨x, hx⟩ : ∃ x, x = xs[k] := ⟨_, rfl⟩
        have hge : xs[k]? = some x := by rw [hx]; exact List.getElem?_eq_getElem hkx
        have hrk : ((xs.take k).map mvV ++ xs.drop k)[k]? = some x := by
          rw [List.getElem?_append_right (by simp <;> omega)]
          simp [List.getElem?_drop, hge]
          rw [Nat.min_eq_left (by omega), Nat.sub_self, Nat.add_zero]
          exact hge
        have hcl : ∀ j, j < 8 → wr.cell? ⟨g, k * 8 + j, none⟩ = x.cells[j]? := fun j hj => by
          rw [hg4 _ (by omega)]
          exact vflat_at _ k x hrk j hj
        have q0 := hcl 0 (by omega)
        have q1 := hcl 1 (by omega)
        have q2 := hcl 2 (by omega)
        have q3 := hcl 3 (by omega)
        have q4 := hcl 4 (by omega)
        have q5 := hcl 5 (by omega)
        have q6 := hcl 6 (by omega)
        have q7 := hcl 7 (by omega)
        simp only [VL.cells, List.getElem?_cons_zero, List.getElem?_cons_succ, Nat.add_zero] at q0 q1 q2 q3 q4 q5 q6 q7
        have hox := (hok x (List.mem_of_getElem? hge)).below HR.out.1
        have Hox := Lib.hid hox
        have Hge := Lib.hid hge
        have Hg4 := Lib.hid hg4
        have Hg5 := Lib.hid hg5
        have Hok := Lib.hid hok
        have Hfi := Lib.hid hfi
        have hgz : ((g : Nat) : Int) = g := rfl
        clear hge hrk hcl hox hg4 hg5 hok hfi hx hkx hv hr hgz
        go_upto_region 9 with fail
        go_cut [7] from 53 to 119 (fun v7 wc => v7 = .bool (S.moves x.i) ∧ wr.alloc (.cells #[.int .i64 x.i.op, .int .i64 x.i.d, .int .i64 x.i.a, .int .i64 x.i.b, .int .i64 x.i.imm, .int .i64 x.i.label, .slice x.U x.i.uses.length x.cu, .slice x.M x.i.map.length x.cm] 25) = wc)
        case first =>
          have Hm := Lib.hid (show S.moves x.i = decide (x.i.op = 73 ∨ x.i.op = 74) from rfl)
          by_cases o1 : x.i.op = 73
          · have o2 : ¬ x.i.op = 74 := by omega
            have Ho1 := Lib.hid o1
            go_wp2_with fail
            go_meet
            case rel => exact ⟨by rw [Hm.out, decide_eq_true (Or.inl Ho1.out)], by rw [Ho1.out]⟩
          · by_cases o2 : x.i.op = 74
            · have Ho1 := Lib.hid o2
              go_wp2_with fail
              go_meet
              case rel => exact ⟨by rw [Hm.out, decide_eq_true (Or.inr Ho1.out)], by rw [Ho1.out]⟩
            · have Ho1 := Lib.hid o1
              have Ho2 := Lib.hid o2
              go_wp2_with fail
              go_meet
              case rel => exact ⟨by rw [Hm.out, decide_eq_false (fun h => h.elim Ho1.out Ho2.out)]; simp; exact ⟨Ho1.out, Ho2.out⟩, rfl⟩
        case rest =>
          obtain ⟨rfl, rfl⟩ := hcut
          have hww := HR.out.1.size
          have h3b := three_below wr (.cells #[.int .i64 x.i.op, .int .i64 x.i.d, .int .i64 x.i.a, .int .i64 x.i.b, .int .i64 x.i.imm, .int .i64 x.i.label, .slice x.U x.i.uses.length x.cu, .slice x.M x.i.map.length x.cm] 25) (.cells #[.int .i64 x.i.d, .int .i64 x.i.a, .int .i64 x.i.b] 3) (.cells #[.slice (some ⟨wr.heap.size + 1, 0, none⟩) 3 3, .slice x.U x.i.uses.length x.cu] 23)
          have h3c := three_cells wr (.cells #[.int .i64 x.i.op, .int .i64 x.i.d, .int .i64 x.i.a, .int .i64 x.i.b, .int .i64 x.i.imm, .int .i64 x.i.label, .slice x.U x.i.uses.length x.cu, .slice x.M x.i.map.length x.cm] 25) (.cells #[.int .i64 x.i.d, .int .i64 x.i.a, .int .i64 x.i.b] 3) (.cells #[.slice (some ⟨wr.heap.size + 1, 0, none⟩) 3 3, .slice x.U x.i.uses.length x.cu] 23)
          obtain ⟨W3, hW3⟩ : ∃ W3, W3 = (((wr.alloc (.cells #[.int .i64 x.i.op, .int .i64 x.i.d, .int .i64 x.i.a, .int .i64 x.i.b, .int .i64 x.i.imm, .int .i64 x.i.label, .slice x.U x.i.uses.length x.cu, .slice x.M x.i.map.length x.cm] 25)).alloc (.cells #[.int .i64 x.i.d, .int .i64 x.i.a, .int .i64 x.i.b] 3)).alloc (.cells #[.slice (some ⟨wr.heap.size + 1, 0, none⟩) 3 3, .slice x.U x.i.uses.length x.cu] 23)) := ⟨_, rfl⟩
          rw [← hW3] at h3b h3c
          have hs3 : W3.heap.size = wr.heap.size + 3 := by rw [hW3]; simp
          have hcc := s_Concat W3.heap.size (wr.heap.size + 1 + 1) W3 (some ⟨wr.heap.size + 1, 0, none⟩) x.U [x.i.d, x.i.a, x.i.b] x.i.uses 3 x.cu h3c.2.2 (ints3 h3c.2.1 (by omega)) ((Hox.out.us.below (h3b.mono hww)).more (by omega)) (Nat.le_refl _) (by simp) (by simp) (by have := Hox.out.ul; omega) (fun e => by cases e) Hox.out.un
          obtain ⟨L, hL⟩ : ∃ L, L = [x.i.d, x.i.a, x.i.b] ++ x.i.uses := ⟨_, rfl⟩
          have hLl : L.length ≤ 43 := by rw [hL]; have := Hox.out.ul; simp; omega
          rw [← hL] at hcc
          obtain ⟨n8, hn8⟩ : ∃ n8, n8 = L.length := ⟨_, rfl⟩
          rw [← hn8] at hcc
          have HL := Lib.hid hL
          have Hn8 := Lib.hid hn8
          have HW3 := Lib.hid hW3
          have H3b := Lib.hid h3b
          have H3c := Lib.hid h3c
          rw [hW3] at hcc
          have Hcc := Lib.hid hcc
          clear hcc hL hn8 hW3 h3b h3c hs3
          go_wp2_with fail
          refine Hcc.out.mono ?_
          rintro e w5 ⟨⟨A8, c8, rfl, ho8⟩, hb5⟩
          rw [← HW3.out] at ho8 hb5
          have hcf := s_ContainsFunc w5.heap.size 28 #[] (fun r => decide (32 ≤ r)) enters_chk2 w5 (p_chk2 _ _) A8 L c8 (Ints.of_own ho8) (by omega)
          rw [← Hn8.out] at hcf
          obtain ⟨b9, hb9⟩ : ∃ b9, b9 = L.any (fun r => decide (32 ≤ r)) := ⟨_, rfl⟩
          rw [← hb9] at hcf
          have Hb9 := Lib.hid hb9
          have Hcf := Lib.hid hcf
          have hb35 := H3b.out.trans (hb5.mono H3b.out.size)
          have Hb35 := Lib.hid hb35
          have Hbx5 := Lib.hid ((hb5.block wr.heap.size (by have := HW3.out; rw [this]; simp <;> omega)).trans H3c.out.1)
          clear hcf hb9 hb5 ho8 hb35
          go_wp2_with fail
          refine Hcf.out.mono ?_
          rintro e w6 ⟨rfl, hb6⟩
          have hb36 := Hb35.out.trans (hb6.mono Hb35.out.size)
          have hbx6 := (hb6.block wr.heap.size (by have := Hb35.out.size; have := Hbx5.out; rcases Nat.lt_or_ge wr.heap.size w5.heap.size with h' | h'; exact h'; simp [Array.getElem?_eq_none h'] at this)).trans Hbx5.out
          have c7 : w6.cell? ⟨wr.heap.size, 7, none⟩ = some (.slice x.M x.i.map.length x.cm) := by rw [Lib.cell_of_heap hbx6]; rfl
          have hR6b := HR.out.1.trans (hb36.mono HR.out.1.size)
          have hlt0 : w.heap.size < wr.heap.size := by
            have := HR.out.2.1
            rcases Nat.lt_or_ge w.heap.size wr.heap.size with h' | h'
            · exact h'
            · simp [Array.getElem?_eq_none h'] at this
          have hlt1 : w.heap.size + 1 < wr.heap.size := by
            have := HR.out.2.2.1
            rcases Nat.lt_or_ge (w.heap.size + 1) wr.heap.size with h' | h'
            · exact h'
            · simp [Array.getElem?_eq_none h'] at this
          have hf6 := (hb36.block w.heap.size hlt0).trans HR.out.2.1
          have hc6 := (hb36.block (w.heap.size + 1) hlt1).trans HR.out.2.2.1
          have cs6 : w6.cell? ⟨w.heap.size, 2, none⟩ = some (.int .i64 slots) := by rw [Lib.cell_of_heap hf6]; rfl
          have cf6 : w6.cell? ⟨w.heap.size + 1, 0, none⟩ = some (.func (.func 24) #[] #[.pointer (some ⟨w.heap.size, 0, none⟩)]) := by rw [Lib.cell_of_heap hc6]; rfl
          have hmp := (Hox.out.mp.below (hb36.mono HR.out.1.size)).more (B' := w6.heap.size) (Nat.le_trans HR.out.1.size hb36.size)
          have hcf := s_ContainsFunc w6.heap.size 29 #[.pointer (some ⟨w.heap.size + 1, 0, none⟩)] (fun s => !S.slotOk slots s) enters_chk3 w6 (p_chk3 _ _ _ slots w6 cs6 (Nat.lt_of_lt_of_le hlt0 hb36.size) cf6 (Nat.lt_of_lt_of_le hlt1 hb36.size)) x.M x.i.map x.cm hmp (by have := Hox.out.ml; omega)
          obtain ⟨b10, hb10⟩ : ∃ b10, b10 = x.i.map.any (fun s => !S.slotOk slots s) := ⟨_, rfl⟩
          rw [← hb10] at hcf
          have Hb10 := Lib.hid hb10
          have Hcf6 := Lib.hid hcf
          have Hb36 := Lib.hid hb36
          have Hbx6 := Lib.hid hbx6
          have Hf6 := Lib.hid hf6
          have Hc6 := Lib.hid hc6
          have Hmp := Lib.hid hmp
          clear hcf hb10 hb6 hb36 hbx6 hf6 hc6 cs6 cf6 hmp hR6b
          go_wp2_with fail
          refine Hcf6.out.mono ?_
          rintro e w7 ⟨rfl, hb7⟩
          go_upto_region 13 with fail
          have hz67 := Hb36.out.size
          have hb37 := Hb36.out.trans (hb7.mono hz67)
          have Hb37 := Lib.hid hb37
          have Hbx7 := Lib.hid ((hb7.block wr.heap.size (by have := Hbx6.out; rcases Nat.lt_or_ge wr.heap.size w6.heap.size with h' | h'; exact h'; simp [Array.getElem?_eq_none h'] at this)).trans Hbx6.out)
          have Hf7 := Lib.hid ((hb37.block w.heap.size hlt0).trans HR.out.2.1)
          have Hc7 := Lib.hid ((hb37.block (w.heap.size + 1) hlt1).trans HR.out.2.2.1)
          have Hmp7 := Lib.hid (Hmp.out.below hb7)
          have Hein := Lib.hid (einst_eq slots x.i)
          rw [← HL.out, ← Hb9.out, ← Hb10.out] at Hein
          have Hml := Lib.hid (Hox.out.ml)
          have hz7 : w6.heap.size ≤ w7.heap.size := hb7.size
          clear hb7 hb37 hz67 c7 Hcf Hcc Hcf6
          obtain ⟨mv, hmv⟩ : ∃ mv, mv = S.moves x.i := ⟨_, rfl⟩
          rw [← hmv] at Hein ⊢
          have Hmv := Lib.hid hmv
          clear hmv
          go_cut [112] from 53 to 119 (fun v112 wc => v112 = .bool (!S.einst slots x.i) ∧ Below w7.heap.size w7 wc)
          case first =>
            cases hb9c : b9 with
            | true =>
              subst hb9c
              go_quiet (fail)
              go_wp2_with fail
              go_meet
              case rel => exact ⟨by rw [Hein.out]; simp, below_drewN (Below.refl _ _) _⟩
            | false =>
              subst hb9c
              cases hb10c : b10 with
              | true =>
                subst hb10c
                go_quiet (fail)
                go_wp2_with fail
                go_meet
                case rel => exact ⟨by rw [Hein.out]; simp, below_drewN (Below.refl _ _) _⟩
              | false =>
                subst hb10c
                have cd7 : w7.cell? ⟨wr.heap.size, 7, none⟩ = some (.slice x.M x.i.map.length x.cm) := by rw [Lib.cell_of_heap Hbx7.out]; rfl
                have cd4 : w7.cell? ⟨wr.heap.size, 4, none⟩ = some (.int .i64 x.i.imm) := by rw [Lib.cell_of_heap Hbx7.out]; rfl
                have cdf : w7.cell? ⟨w.heap.size + 1, 0, none⟩ = some (.func (.func 24) #[] #[.pointer (some ⟨w.heap.size, 0, none⟩)]) := by rw [Lib.cell_of_heap Hc7.out]; rfl
                have Hcs := Lib.hid (show w7.cell? ⟨w.heap.size, 2, none⟩ = some (.int .i64 slots) by rw [Lib.cell_of_heap Hf7.out]; rfl)
                have His := Lib.hid (fun n => s_IsSortedQ w6.heap.size (w7.drewN n) x.M x.i.map x.cm (Hmp7.out.below (below_drewN (Below.refl _ _) n)) (by have := Hml.out; omega))
                have Hcl := Lib.hid (fun n => q_chk1 w.heap.size slots x.i.imm (w7.drewN n) Hcs.out)
                have eg1 := enters_chk1
                cases hmc : mv with
                | true =>
                  subst hmc
                  cases hsl : S.slotOk slots x.i.imm with
                  | false =>
                    have Hsl := Lib.hid hsl
                    rw [hsl] at Hcl
                    clear hsl
                    go_quiet ((go_at_fn 24; exact Calls.quiet_of_same (Hcl.out _)))
                    go_wp2_with fail
                    go_meet
                    case rel => exact ⟨by rw [Hein.out, Hsl.out]; simp, below_drewN (Below.refl _ _) _⟩
                  | true =>
                    have Hsl := Lib.hid hsl
                    rw [hsl] at Hcl
                    clear hsl
                    cases huc : upTo x.i.map with
                    | true =>
                      have Huc := Lib.hid huc
                      clear huc His Hcl
                      have hwr7 : wr.heap.size < w7.heap.size := World.block_lt_of_cell? _ _ cd7
                      have hwf7 : w.heap.size + 1 < w7.heap.size := World.block_lt_of_cell? _ _ cdf
                      have Hm7 := Lib.hid (Hmp7.out.more hz7)
                      have Hiq := Lib.hid (fun (y : Ext w7) => s_IsSorted w7.heap.size y.val x.M x.i.map x.cm (Hm7.out.below y.property) (ext_size w7 y) (by have := Hml.out; omega))
                      rw [Huc.out] at Hiq
                      have Hcq := Lib.hid (fun (y : Ext w7) => (q_chk1 w.heap.size slots x.i.imm y.val ((y.property.cell (p := ⟨w.heap.size, 2, none⟩) (by show w.heap.size < w7.heap.size; omega)).trans Hcs.out)).mono (R' := fun e w' => e = .returned (.bool (S.slotOk slots x.i.imm)) ∧ y.val = w') fun _ _ h => ⟨h.1, h.2.symm⟩)
                      rw [Hsl.out] at Hcq
                      refine wp_region_ext_any 21 (Array.replicate 21 true ++ Array.replicate 10 false) (by kernel_rfl) (by kernel_rfl) ?_
                      have hE := ext_cells w7
                      have hES := ext_size w7
                      simp only [List.take_succ_cons, List.take_zero]
                      repeat (first
                        | go_big_quiet_step ((first
                          | (go_at_fn 24; exact ext_of_same (Hcq.out _))
                          | (go_at_call 30; exact ext_of (Hiq.out _)))))
                      refine wpQuiet_nil ?_
                      rintro w8 ⟨⟨_, hb8⟩, rfl⟩
                      have ce8 : w8.cell? ⟨wr.heap.size, 7, none⟩ = some (.slice x.M x.i.map.length x.cm) := (hb8.cell (p := ⟨wr.heap.size, 7, none⟩) hwr7).trans cd7
                      clear hE hES Hiq Hcq eg1 cdf cd4
                      change wpAny _ _ _ _ 10 _ _ _
                      refine wpAny_take (i := 21) (v := ?v21n1) rfl (by kernel_rfl) (by kernel_rfl) (by kernel_rfl) (fun _ _ _ h => h) (Or.inl ⟨by rfl, ?y21n1⟩) ?z21n1
                      case y21n1 => (intro w; first | (go_simp; done) | (go_simp; with_reducible rfl))
                      refine wpAny_take (i := 26) (v := ?v26n2) rfl (by kernel_rfl) (by kernel_rfl) (by kernel_rfl) (fun _ _ _ h => h) (Or.inl ⟨by rfl, ?y26n2⟩) ?z26n2
                      case y26n2 => (intro w; first | (go_simp; done) | (go_simp; with_reducible rfl))
                      refine wpAny_ready (rs := [22, 27]) (by kernel_rfl) (by simp) ?_
                      refine AllReady.cons rfl (fun K hK => ?_) ?_
                      · go_simp
                        refine hK _ _ ?_
                        clear hK K
                        refine wpAny_ready (rs := [23, 27]) (by kernel_rfl) (by simp) ?_
                        refine AllReady.cons rfl (fun K hK => ?_) ?_
                        · go_simp
                          go_wp2_with (go_at_call 32; refine (s_CloneI x.M x.i.map x.cm w8 ((Hm7.out.below hb8).more (by have := (hb8).size; omega)) (by have := Hml.out; omega)).mono ?_; rintro e wC ⟨⟨A9, c9, rfl, ho9⟩, hb9⟩)
                          have hbC : Below w7.heap.size w7 wC := (hb8).trans (hb9.mono (hb8).size)
                          have zC := (hb8).size
                          have ceC : wC.cell? ⟨wr.heap.size, 7, none⟩ = some (.slice x.M x.i.map.length x.cm) := (hbC.cell (p := ⟨wr.heap.size, 7, none⟩) hwr7).trans cd7
                          have Ho9 := Lib.hid ho9
                          clear ho9 hb9
                          refine wpAny_ready (rs := [24, 27]) (by kernel_rfl) (by simp) ?_
                          refine AllReady.cons rfl (fun K hK => ?_) ?_
                          · go_simp
                            go_wp2_with (go_at_call 31; refine (s_CompactI _ A9 x.i.map c9 wC Ho9.out (by have := Hml.out; omega)).mono ?_; rintro e wK ⟨⟨A10, c10, rfl⟩, hb10⟩)
                            have hbK : Below w7.heap.size w7 wK := (hbC).trans (hb10.mono (by first | exact zC | omega))
                            have ceK : wK.cell? ⟨wr.heap.size, 7, none⟩ = some (.slice x.M x.i.map.length x.cm) := (hbK.cell (p := ⟨wr.heap.size, 7, none⟩) hwr7).trans cd7
                            clear hb10
                            refine wpAny_take (i := 25) (v := ?v25n3) rfl (by kernel_rfl) (by kernel_rfl) (by kernel_rfl) (fun _ _ _ h => h) (Or.inl ⟨by rfl, ?y25n3⟩) ?z25n3
                            case y25n3 => (intro w; first | (go_simp; done) | (go_simp; with_reducible rfl))
                            refine wpAny_ready (rs := [27]) (by kernel_rfl) (by simp) ?_
                            refine AllReady.cons rfl (fun K hK => ?_) ?_
                            · go_simp
                              refine hK _ _ ?_
                              clear hK K
                              refine wpAny_take (i := 28) (v := ?v28n4) rfl (by kernel_rfl) (by kernel_rfl) (by kernel_rfl) (fun _ _ _ h => h) (Or.inl ⟨by rfl, ?y28n4⟩) ?z28n4
                              case y28n4 => (intro w; first | (go_simp; done) | (go_simp; with_reducible rfl))
                              refine wpAny_take (i := 29) (v := ?v29n5) rfl (by kernel_rfl) (by kernel_rfl) (by kernel_rfl) (fun _ _ _ h => h) (Or.inl ⟨by rfl, ?y29n5⟩) ?z29n5
                              case y29n5 => (intro w; first | (go_simp; done) | (go_simp; with_reducible rfl))
                              refine wpAny_take (i := 30) (v := ?v30n6) rfl (by kernel_rfl) (by kernel_rfl) (by kernel_rfl) (fun _ _ _ h => h) (Or.inl ⟨by rfl, ?y30n6⟩) ?z30n6
                              case y30n6 => (intro w; first | (go_simp; done) | (go_simp; with_reducible rfl))
                              refine wpAny_done (by kernel_rfl) ?_ _
                              go_wp2_with fail
                              go_meet
                              case rel => exact ⟨by rw [Hein.out]; simp [Huc.out, Hsl.out], hbK⟩
                            exact AllReady.nil
                          refine AllReady.cons rfl (fun K hK => ?_) ?_
                          · go_simp
                            refine hK _ _ ?_
                            clear hK K
                            refine wpAny_take (i := 28) (v := ?v28n7) rfl (by kernel_rfl) (by kernel_rfl) (by kernel_rfl) (fun _ _ _ h => h) (Or.inl ⟨by rfl, ?y28n7⟩) ?z28n7
                            case y28n7 => (intro w; first | (go_simp; done) | (go_simp; with_reducible rfl))
                            refine wpAny_ready (rs := [24]) (by kernel_rfl) (by simp) ?_
                            refine AllReady.cons rfl (fun K hK => ?_) ?_
                            · go_simp
                              go_wp2_with (go_at_call 31; refine (s_CompactI _ A9 x.i.map c9 wC Ho9.out (by have := Hml.out; omega)).mono ?_; rintro e wK ⟨⟨A10, c10, rfl⟩, hb10⟩)
                              have hbK : Below w7.heap.size w7 wK := (hbC).trans (hb10.mono (by first | exact zC | omega))
                              have ceK : wK.cell? ⟨wr.heap.size, 7, none⟩ = some (.slice x.M x.i.map.length x.cm) := (hbK.cell (p := ⟨wr.heap.size, 7, none⟩) hwr7).trans cd7
                              clear hb10
                              refine wpAny_take (i := 25) (v := ?v25n8) rfl (by kernel_rfl) (by kernel_rfl) (by kernel_rfl) (fun _ _ _ h => h) (Or.inl ⟨by rfl, ?y25n8⟩) ?z25n8
                              case y25n8 => (intro w; first | (go_simp; done) | (go_simp; with_reducible rfl))
                              refine wpAny_take (i := 29) (v := ?v29n9) rfl (by kernel_rfl) (by kernel_rfl) (by kernel_rfl) (fun _ _ _ h => h) (Or.inl ⟨by rfl, ?y29n9⟩) ?z29n9
                              case y29n9 => (intro w; first | (go_simp; done) | (go_simp; with_reducible rfl))
                              refine wpAny_take (i := 30) (v := ?v30n10) rfl (by kernel_rfl) (by kernel_rfl) (by kernel_rfl) (fun _ _ _ h => h) (Or.inl ⟨by rfl, ?y30n10⟩) ?z30n10
                              case y30n10 => (intro w; first | (go_simp; done) | (go_simp; with_reducible rfl))
                              refine wpAny_done (by kernel_rfl) ?_ _
                              go_wp2_with fail
                              go_meet
                              case rel => exact ⟨by rw [Hein.out]; simp [Huc.out, Hsl.out], hbK⟩
                            exact AllReady.nil
                          exact AllReady.nil
                        refine AllReady.cons rfl (fun K hK => ?_) ?_
                        · go_simp
                          refine hK _ _ ?_
                          clear hK K
                          refine wpAny_take (i := 28) (v := ?v28n11) rfl (by kernel_rfl) (by kernel_rfl) (by kernel_rfl) (fun _ _ _ h => h) (Or.inl ⟨by rfl, ?y28n11⟩) ?z28n11
                          case y28n11 => (intro w; first | (go_simp; done) | (go_simp; with_reducible rfl))
                          refine wpAny_ready (rs := [23]) (by kernel_rfl) (by simp) ?_
                          refine AllReady.cons rfl (fun K hK => ?_) ?_
                          · go_simp
                            go_wp2_with (go_at_call 32; refine (s_CloneI x.M x.i.map x.cm w8 ((Hm7.out.below hb8).more (by have := (hb8).size; omega)) (by have := Hml.out; omega)).mono ?_; rintro e wC ⟨⟨A9, c9, rfl, ho9⟩, hb9⟩)
                            have hbC : Below w7.heap.size w7 wC := (hb8).trans (hb9.mono (hb8).size)
                            have zC := (hb8).size
                            have ceC : wC.cell? ⟨wr.heap.size, 7, none⟩ = some (.slice x.M x.i.map.length x.cm) := (hbC.cell (p := ⟨wr.heap.size, 7, none⟩) hwr7).trans cd7
                            have Ho9 := Lib.hid ho9
                            clear ho9 hb9
                            refine wpAny_ready (rs := [24]) (by kernel_rfl) (by simp) ?_
                            refine AllReady.cons rfl (fun K hK => ?_) ?_
                            · go_simp
                              go_wp2_with (go_at_call 31; refine (s_CompactI _ A9 x.i.map c9 wC Ho9.out (by have := Hml.out; omega)).mono ?_; rintro e wK ⟨⟨A10, c10, rfl⟩, hb10⟩)
                              have hbK : Below w7.heap.size w7 wK := (hbC).trans (hb10.mono (by first | exact zC | omega))
                              have ceK : wK.cell? ⟨wr.heap.size, 7, none⟩ = some (.slice x.M x.i.map.length x.cm) := (hbK.cell (p := ⟨wr.heap.size, 7, none⟩) hwr7).trans cd7
                              clear hb10
                              refine wpAny_take (i := 25) (v := ?v25n12) rfl (by kernel_rfl) (by kernel_rfl) (by kernel_rfl) (fun _ _ _ h => h) (Or.inl ⟨by rfl, ?y25n12⟩) ?z25n12
                              case y25n12 => (intro w; first | (go_simp; done) | (go_simp; with_reducible rfl))
                              refine wpAny_take (i := 29) (v := ?v29n13) rfl (by kernel_rfl) (by kernel_rfl) (by kernel_rfl) (fun _ _ _ h => h) (Or.inl ⟨by rfl, ?y29n13⟩) ?z29n13
                              case y29n13 => (intro w; first | (go_simp; done) | (go_simp; with_reducible rfl))
                              refine wpAny_take (i := 30) (v := ?v30n14) rfl (by kernel_rfl) (by kernel_rfl) (by kernel_rfl) (fun _ _ _ h => h) (Or.inl ⟨by rfl, ?y30n14⟩) ?z30n14
                              case y30n14 => (intro w; first | (go_simp; done) | (go_simp; with_reducible rfl))
                              refine wpAny_done (by kernel_rfl) ?_ _
                              go_wp2_with fail
                              go_meet
                              case rel => exact ⟨by rw [Hein.out]; simp [Huc.out, Hsl.out], hbK⟩
                            exact AllReady.nil
                          exact AllReady.nil
                        exact AllReady.nil
                      refine AllReady.cons rfl (fun K hK => ?_) ?_
                      · go_simp
                        refine hK _ _ ?_
                        clear hK K
                        refine wpAny_take (i := 28) (v := ?v28n15) rfl (by kernel_rfl) (by kernel_rfl) (by kernel_rfl) (fun _ _ _ h => h) (Or.inl ⟨by rfl, ?y28n15⟩) ?z28n15
                        case y28n15 => (intro w; first | (go_simp; done) | (go_simp; with_reducible rfl))
                        refine wpAny_ready (rs := [22]) (by kernel_rfl) (by simp) ?_
                        refine AllReady.cons rfl (fun K hK => ?_) ?_
                        · go_simp
                          refine hK _ _ ?_
                          clear hK K
                          refine wpAny_ready (rs := [23]) (by kernel_rfl) (by simp) ?_
                          refine AllReady.cons rfl (fun K hK => ?_) ?_
                          · go_simp
                            go_wp2_with (go_at_call 32; refine (s_CloneI x.M x.i.map x.cm w8 ((Hm7.out.below hb8).more (by have := (hb8).size; omega)) (by have := Hml.out; omega)).mono ?_; rintro e wC ⟨⟨A9, c9, rfl, ho9⟩, hb9⟩)
                            have hbC : Below w7.heap.size w7 wC := (hb8).trans (hb9.mono (hb8).size)
                            have zC := (hb8).size
                            have ceC : wC.cell? ⟨wr.heap.size, 7, none⟩ = some (.slice x.M x.i.map.length x.cm) := (hbC.cell (p := ⟨wr.heap.size, 7, none⟩) hwr7).trans cd7
                            have Ho9 := Lib.hid ho9
                            clear ho9 hb9
                            refine wpAny_ready (rs := [24]) (by kernel_rfl) (by simp) ?_
                            refine AllReady.cons rfl (fun K hK => ?_) ?_
                            · go_simp
                              go_wp2_with (go_at_call 31; refine (s_CompactI _ A9 x.i.map c9 wC Ho9.out (by have := Hml.out; omega)).mono ?_; rintro e wK ⟨⟨A10, c10, rfl⟩, hb10⟩)
                              have hbK : Below w7.heap.size w7 wK := (hbC).trans (hb10.mono (by first | exact zC | omega))
                              have ceK : wK.cell? ⟨wr.heap.size, 7, none⟩ = some (.slice x.M x.i.map.length x.cm) := (hbK.cell (p := ⟨wr.heap.size, 7, none⟩) hwr7).trans cd7
                              clear hb10
                              refine wpAny_take (i := 25) (v := ?v25n16) rfl (by kernel_rfl) (by kernel_rfl) (by kernel_rfl) (fun _ _ _ h => h) (Or.inl ⟨by rfl, ?y25n16⟩) ?z25n16
                              case y25n16 => (intro w; first | (go_simp; done) | (go_simp; with_reducible rfl))
                              refine wpAny_take (i := 29) (v := ?v29n17) rfl (by kernel_rfl) (by kernel_rfl) (by kernel_rfl) (fun _ _ _ h => h) (Or.inl ⟨by rfl, ?y29n17⟩) ?z29n17
                              case y29n17 => (intro w; first | (go_simp; done) | (go_simp; with_reducible rfl))
                              refine wpAny_take (i := 30) (v := ?v30n18) rfl (by kernel_rfl) (by kernel_rfl) (by kernel_rfl) (fun _ _ _ h => h) (Or.inl ⟨by rfl, ?y30n18⟩) ?z30n18
                              case y30n18 => (intro w; first | (go_simp; done) | (go_simp; with_reducible rfl))
                              refine wpAny_done (by kernel_rfl) ?_ _
                              go_wp2_with fail
                              go_meet
                              case rel => exact ⟨by rw [Hein.out]; simp [Huc.out, Hsl.out], hbK⟩
                            exact AllReady.nil
                          exact AllReady.nil
                        exact AllReady.nil
                      exact AllReady.nil
                    | false =>
                      have Huc := Lib.hid huc
                      rw [huc] at His
                      clear huc
                      go_quiet ((first | (go_at_fn 24; exact Calls.quiet_of_same (Hcl.out _)) | (go_at_call 30; exact quiet_more (His.out _))))
                      go_wp2_with fail
                      go_meet
                      case rel => exact ⟨by rw [Hein.out, Huc.out]; simp, below_drewN (Below.refl _ _) _⟩
                | false =>
                  subst hmc
                  cases huc : upTo x.i.map with
                  | true =>
                    have Huc := Lib.hid huc
                    clear huc His Hcl
                    have hwr7 : wr.heap.size < w7.heap.size := World.block_lt_of_cell? _ _ cd7
                    have hwf7 : w.heap.size + 1 < w7.heap.size := World.block_lt_of_cell? _ _ cdf
                    have Hm7 := Lib.hid (Hmp7.out.more hz7)
                    have Hiq := Lib.hid (fun (y : Ext w7) => s_IsSorted w7.heap.size y.val x.M x.i.map x.cm (Hm7.out.below y.property) (ext_size w7 y) (by have := Hml.out; omega))
                    rw [Huc.out] at Hiq
                    refine wp_region_ext_any 21 (Array.replicate 21 true ++ Array.replicate 10 false) (by kernel_rfl) (by kernel_rfl) ?_
                    have hE := ext_cells w7
                    have hES := ext_size w7
                    simp only [List.take_succ_cons, List.take_zero]
                    repeat (first
                      | go_big_quiet_step ((first
                        | (go_at_call 30; exact ext_of (Hiq.out _)))))
                    refine wpQuiet_nil ?_
                    rintro w8 ⟨⟨_, hb8⟩, rfl⟩
                    have ce8 : w8.cell? ⟨wr.heap.size, 7, none⟩ = some (.slice x.M x.i.map.length x.cm) := (hb8.cell (p := ⟨wr.heap.size, 7, none⟩) hwr7).trans cd7
                    clear hE hES Hiq eg1 cdf cd4
                    change wpAny _ _ _ _ 10 _ _ _
                    refine wpAny_take (i := 21) (v := ?v21n19) rfl (by kernel_rfl) (by kernel_rfl) (by kernel_rfl) (fun _ _ _ h => h) (Or.inl ⟨by rfl, ?y21n19⟩) ?z21n19
                    case y21n19 => (intro w; first | (go_simp; done) | (go_simp; with_reducible rfl))
                    refine wpAny_take (i := 26) (v := ?v26n20) rfl (by kernel_rfl) (by kernel_rfl) (by kernel_rfl) (fun _ _ _ h => h) (Or.inl ⟨by rfl, ?y26n20⟩) ?z26n20
                    case y26n20 => (intro w; first | (go_simp; done) | (go_simp; with_reducible rfl))
                    refine wpAny_ready (rs := [22, 27]) (by kernel_rfl) (by simp) ?_
                    refine AllReady.cons rfl (fun K hK => ?_) ?_
                    · go_simp
                      refine hK _ _ ?_
                      clear hK K
                      refine wpAny_ready (rs := [23, 27]) (by kernel_rfl) (by simp) ?_
                      refine AllReady.cons rfl (fun K hK => ?_) ?_
                      · go_simp
                        go_wp2_with (go_at_call 32; refine (s_CloneI x.M x.i.map x.cm w8 ((Hm7.out.below hb8).more (by have := (hb8).size; omega)) (by have := Hml.out; omega)).mono ?_; rintro e wC ⟨⟨A9, c9, rfl, ho9⟩, hb9⟩)
                        have hbC : Below w7.heap.size w7 wC := (hb8).trans (hb9.mono (hb8).size)
                        have zC := (hb8).size
                        have ceC : wC.cell? ⟨wr.heap.size, 7, none⟩ = some (.slice x.M x.i.map.length x.cm) := (hbC.cell (p := ⟨wr.heap.size, 7, none⟩) hwr7).trans cd7
                        have Ho9 := Lib.hid ho9
                        clear ho9 hb9
                        refine wpAny_ready (rs := [24, 27]) (by kernel_rfl) (by simp) ?_
                        refine AllReady.cons rfl (fun K hK => ?_) ?_
                        · go_simp
                          go_wp2_with (go_at_call 31; refine (s_CompactI _ A9 x.i.map c9 wC Ho9.out (by have := Hml.out; omega)).mono ?_; rintro e wK ⟨⟨A10, c10, rfl⟩, hb10⟩)
                          have hbK : Below w7.heap.size w7 wK := (hbC).trans (hb10.mono (by first | exact zC | omega))
                          have ceK : wK.cell? ⟨wr.heap.size, 7, none⟩ = some (.slice x.M x.i.map.length x.cm) := (hbK.cell (p := ⟨wr.heap.size, 7, none⟩) hwr7).trans cd7
                          clear hb10
                          refine wpAny_take (i := 25) (v := ?v25n21) rfl (by kernel_rfl) (by kernel_rfl) (by kernel_rfl) (fun _ _ _ h => h) (Or.inl ⟨by rfl, ?y25n21⟩) ?z25n21
                          case y25n21 => (intro w; first | (go_simp; done) | (go_simp; with_reducible rfl))
                          refine wpAny_ready (rs := [27]) (by kernel_rfl) (by simp) ?_
                          refine AllReady.cons rfl (fun K hK => ?_) ?_
                          · go_simp
                            refine hK _ _ ?_
                            clear hK K
                            refine wpAny_take (i := 28) (v := ?v28n22) rfl (by kernel_rfl) (by kernel_rfl) (by kernel_rfl) (fun _ _ _ h => h) (Or.inl ⟨by rfl, ?y28n22⟩) ?z28n22
                            case y28n22 => (intro w; first | (go_simp; done) | (go_simp; with_reducible rfl))
                            refine wpAny_take (i := 29) (v := ?v29n23) rfl (by kernel_rfl) (by kernel_rfl) (by kernel_rfl) (fun _ _ _ h => h) (Or.inl ⟨by rfl, ?y29n23⟩) ?z29n23
                            case y29n23 => (intro w; first | (go_simp; done) | (go_simp; with_reducible rfl))
                            refine wpAny_take (i := 30) (v := ?v30n24) rfl (by kernel_rfl) (by kernel_rfl) (by kernel_rfl) (fun _ _ _ h => h) (Or.inl ⟨by rfl, ?y30n24⟩) ?z30n24
                            case y30n24 => (intro w; first | (go_simp; done) | (go_simp; with_reducible rfl))
                            refine wpAny_done (by kernel_rfl) ?_ _
                            go_wp2_with fail
                            go_meet
                            case rel => exact ⟨by rw [Hein.out]; simp [Huc.out], hbK⟩
                          exact AllReady.nil
                        refine AllReady.cons rfl (fun K hK => ?_) ?_
                        · go_simp
                          refine hK _ _ ?_
                          clear hK K
                          refine wpAny_take (i := 28) (v := ?v28n25) rfl (by kernel_rfl) (by kernel_rfl) (by kernel_rfl) (fun _ _ _ h => h) (Or.inl ⟨by rfl, ?y28n25⟩) ?z28n25
                          case y28n25 => (intro w; first | (go_simp; done) | (go_simp; with_reducible rfl))
                          refine wpAny_ready (rs := [24]) (by kernel_rfl) (by simp) ?_
                          refine AllReady.cons rfl (fun K hK => ?_) ?_
                          · go_simp
                            go_wp2_with (go_at_call 31; refine (s_CompactI _ A9 x.i.map c9 wC Ho9.out (by have := Hml.out; omega)).mono ?_; rintro e wK ⟨⟨A10, c10, rfl⟩, hb10⟩)
                            have hbK : Below w7.heap.size w7 wK := (hbC).trans (hb10.mono (by first | exact zC | omega))
                            have ceK : wK.cell? ⟨wr.heap.size, 7, none⟩ = some (.slice x.M x.i.map.length x.cm) := (hbK.cell (p := ⟨wr.heap.size, 7, none⟩) hwr7).trans cd7
                            clear hb10
                            refine wpAny_take (i := 25) (v := ?v25n26) rfl (by kernel_rfl) (by kernel_rfl) (by kernel_rfl) (fun _ _ _ h => h) (Or.inl ⟨by rfl, ?y25n26⟩) ?z25n26
                            case y25n26 => (intro w; first | (go_simp; done) | (go_simp; with_reducible rfl))
                            refine wpAny_take (i := 29) (v := ?v29n27) rfl (by kernel_rfl) (by kernel_rfl) (by kernel_rfl) (fun _ _ _ h => h) (Or.inl ⟨by rfl, ?y29n27⟩) ?z29n27
                            case y29n27 => (intro w; first | (go_simp; done) | (go_simp; with_reducible rfl))
                            refine wpAny_take (i := 30) (v := ?v30n28) rfl (by kernel_rfl) (by kernel_rfl) (by kernel_rfl) (fun _ _ _ h => h) (Or.inl ⟨by rfl, ?y30n28⟩) ?z30n28
                            case y30n28 => (intro w; first | (go_simp; done) | (go_simp; with_reducible rfl))
                            refine wpAny_done (by kernel_rfl) ?_ _
                            go_wp2_with fail
                            go_meet
                            case rel => exact ⟨by rw [Hein.out]; simp [Huc.out], hbK⟩
                          exact AllReady.nil
                        exact AllReady.nil
                      refine AllReady.cons rfl (fun K hK => ?_) ?_
                      · go_simp
                        refine hK _ _ ?_
                        clear hK K
                        refine wpAny_take (i := 28) (v := ?v28n29) rfl (by kernel_rfl) (by kernel_rfl) (by kernel_rfl) (fun _ _ _ h => h) (Or.inl ⟨by rfl, ?y28n29⟩) ?z28n29
                        case y28n29 => (intro w; first | (go_simp; done) | (go_simp; with_reducible rfl))
                        refine wpAny_ready (rs := [23]) (by kernel_rfl) (by simp) ?_
                        refine AllReady.cons rfl (fun K hK => ?_) ?_
                        · go_simp
                          go_wp2_with (go_at_call 32; refine (s_CloneI x.M x.i.map x.cm w8 ((Hm7.out.below hb8).more (by have := (hb8).size; omega)) (by have := Hml.out; omega)).mono ?_; rintro e wC ⟨⟨A9, c9, rfl, ho9⟩, hb9⟩)
                          have hbC : Below w7.heap.size w7 wC := (hb8).trans (hb9.mono (hb8).size)
                          have zC := (hb8).size
                          have ceC : wC.cell? ⟨wr.heap.size, 7, none⟩ = some (.slice x.M x.i.map.length x.cm) := (hbC.cell (p := ⟨wr.heap.size, 7, none⟩) hwr7).trans cd7
                          have Ho9 := Lib.hid ho9
                          clear ho9 hb9
                          refine wpAny_ready (rs := [24]) (by kernel_rfl) (by simp) ?_
                          refine AllReady.cons rfl (fun K hK => ?_) ?_
                          · go_simp
                            go_wp2_with (go_at_call 31; refine (s_CompactI _ A9 x.i.map c9 wC Ho9.out (by have := Hml.out; omega)).mono ?_; rintro e wK ⟨⟨A10, c10, rfl⟩, hb10⟩)
                            have hbK : Below w7.heap.size w7 wK := (hbC).trans (hb10.mono (by first | exact zC | omega))
                            have ceK : wK.cell? ⟨wr.heap.size, 7, none⟩ = some (.slice x.M x.i.map.length x.cm) := (hbK.cell (p := ⟨wr.heap.size, 7, none⟩) hwr7).trans cd7
                            clear hb10
                            refine wpAny_take (i := 25) (v := ?v25n30) rfl (by kernel_rfl) (by kernel_rfl) (by kernel_rfl) (fun _ _ _ h => h) (Or.inl ⟨by rfl, ?y25n30⟩) ?z25n30
                            case y25n30 => (intro w; first | (go_simp; done) | (go_simp; with_reducible rfl))
                            refine wpAny_take (i := 29) (v := ?v29n31) rfl (by kernel_rfl) (by kernel_rfl) (by kernel_rfl) (fun _ _ _ h => h) (Or.inl ⟨by rfl, ?y29n31⟩) ?z29n31
                            case y29n31 => (intro w; first | (go_simp; done) | (go_simp; with_reducible rfl))
                            refine wpAny_take (i := 30) (v := ?v30n32) rfl (by kernel_rfl) (by kernel_rfl) (by kernel_rfl) (fun _ _ _ h => h) (Or.inl ⟨by rfl, ?y30n32⟩) ?z30n32
                            case y30n32 => (intro w; first | (go_simp; done) | (go_simp; with_reducible rfl))
                            refine wpAny_done (by kernel_rfl) ?_ _
                            go_wp2_with fail
                            go_meet
                            case rel => exact ⟨by rw [Hein.out]; simp [Huc.out], hbK⟩
                          exact AllReady.nil
                        exact AllReady.nil
                      exact AllReady.nil
                    refine AllReady.cons rfl (fun K hK => ?_) ?_
                    · go_simp
                      refine hK _ _ ?_
                      clear hK K
                      refine wpAny_take (i := 28) (v := ?v28n33) rfl (by kernel_rfl) (by kernel_rfl) (by kernel_rfl) (fun _ _ _ h => h) (Or.inl ⟨by rfl, ?y28n33⟩) ?z28n33
                      case y28n33 => (intro w; first | (go_simp; done) | (go_simp; with_reducible rfl))
                      refine wpAny_ready (rs := [22]) (by kernel_rfl) (by simp) ?_
                      refine AllReady.cons rfl (fun K hK => ?_) ?_
                      · go_simp
                        refine hK _ _ ?_
                        clear hK K
                        refine wpAny_ready (rs := [23]) (by kernel_rfl) (by simp) ?_
                        refine AllReady.cons rfl (fun K hK => ?_) ?_
                        · go_simp
                          go_wp2_with (go_at_call 32; refine (s_CloneI x.M x.i.map x.cm w8 ((Hm7.out.below hb8).more (by have := (hb8).size; omega)) (by have := Hml.out; omega)).mono ?_; rintro e wC ⟨⟨A9, c9, rfl, ho9⟩, hb9⟩)
                          have hbC : Below w7.heap.size w7 wC := (hb8).trans (hb9.mono (hb8).size)
                          have zC := (hb8).size
                          have ceC : wC.cell? ⟨wr.heap.size, 7, none⟩ = some (.slice x.M x.i.map.length x.cm) := (hbC.cell (p := ⟨wr.heap.size, 7, none⟩) hwr7).trans cd7
                          have Ho9 := Lib.hid ho9
                          clear ho9 hb9
                          refine wpAny_ready (rs := [24]) (by kernel_rfl) (by simp) ?_
                          refine AllReady.cons rfl (fun K hK => ?_) ?_
                          · go_simp
                            go_wp2_with (go_at_call 31; refine (s_CompactI _ A9 x.i.map c9 wC Ho9.out (by have := Hml.out; omega)).mono ?_; rintro e wK ⟨⟨A10, c10, rfl⟩, hb10⟩)
                            have hbK : Below w7.heap.size w7 wK := (hbC).trans (hb10.mono (by first | exact zC | omega))
                            have ceK : wK.cell? ⟨wr.heap.size, 7, none⟩ = some (.slice x.M x.i.map.length x.cm) := (hbK.cell (p := ⟨wr.heap.size, 7, none⟩) hwr7).trans cd7
                            clear hb10
                            refine wpAny_take (i := 25) (v := ?v25n34) rfl (by kernel_rfl) (by kernel_rfl) (by kernel_rfl) (fun _ _ _ h => h) (Or.inl ⟨by rfl, ?y25n34⟩) ?z25n34
                            case y25n34 => (intro w; first | (go_simp; done) | (go_simp; with_reducible rfl))
                            refine wpAny_take (i := 29) (v := ?v29n35) rfl (by kernel_rfl) (by kernel_rfl) (by kernel_rfl) (fun _ _ _ h => h) (Or.inl ⟨by rfl, ?y29n35⟩) ?z29n35
                            case y29n35 => (intro w; first | (go_simp; done) | (go_simp; with_reducible rfl))
                            refine wpAny_take (i := 30) (v := ?v30n36) rfl (by kernel_rfl) (by kernel_rfl) (by kernel_rfl) (fun _ _ _ h => h) (Or.inl ⟨by rfl, ?y30n36⟩) ?z30n36
                            case y30n36 => (intro w; first | (go_simp; done) | (go_simp; with_reducible rfl))
                            refine wpAny_done (by kernel_rfl) ?_ _
                            go_wp2_with fail
                            go_meet
                            case rel => exact ⟨by rw [Hein.out]; simp [Huc.out], hbK⟩
                          exact AllReady.nil
                        exact AllReady.nil
                      exact AllReady.nil
                    exact AllReady.nil
                  | false =>
                    have Huc := Lib.hid huc
                    rw [huc] at His
                    clear huc
                    go_quiet ((go_at_call 30; exact quiet_more (His.out _)))
                    go_wp2_with fail
                    go_meet
                    case rel => exact ⟨by rw [Hein.out, Huc.out]; simp, below_drewN (Below.refl _ _) _⟩
          case rest =>
            obtain ⟨rfl, hbc⟩ := hcut
            have hbc2 := Hb37.out.trans (hbc.mono Hb37.out.size)
            have HRc := Lib.hid (HR.out.keep hbc2)
            have HOc := Lib.hid (ownsRow_below HO.out hbc2)
            clear hbc hbc2 Hml Hmp7 Hc7 Hf7 Hbx7 Hb37 Hmp Hc6 Hf6 Hbx6 Hb36 Hb10 Hbx5 Hb35 Hb9 H3c H3b hz7
            cases hec : S.einst slots x.i with
            | false =>
              have Hec := Lib.hid hec
              clear hec
              go_wp2_with fail
              go_ret
              refine ⟨?_, HRc.out.1⟩
              rw [Hone.out x.i (by rw [Hfi.out]; exact List.mem_map.2 ⟨x, List.mem_of_getElem? Hge.out, rfl⟩) Hec.out]
              rfl
            | true =>
              have HE1 : ∀ y ∈ xs.take (k + 1), S.einst slots y.i = true := fun y hy => by
                rw [(mv_split xs k x Hge.out).2] at hy
                rcases List.mem_append.1 hy with hy | hy
                · exact HE.out y hy
                · have : y = x := by simpa using hy
                  rw [this]; exact hec
              have HE2 := Lib.hid HE1
              clear hec HE1
              cases hmc : mv with
              | true =>
                subst hmc
                have cp6 : wc.cell? ⟨w.heap.size + 1 + 1, 6, none⟩ = some (.slice (some ⟨g, 0, none⟩) N c') := by
                  rw [show w.heap.size + 1 + 1 = w.heap.size + 2 by omega, Lib.cell_of_heap HRc.out.2.2.2]; rfl
                obtain ⟨g', he', hgc1, hgc2, hgc3, hgc4, hgc5⟩ := ownsRow_at HOc.out (by omega)
                cases he'
                have hk0 : wc.cell? ⟨g, k * 8, none⟩ = some (.int .i64 x.i.op) := by
                  have hkx : k < xs.length := by rw [← HN.out]; exact hlt
                  have hrk : ((xs.take k).map mvV ++ xs.drop k)[k]? = some x := by
                    rw [List.getElem?_append_right (by simp <;> omega)]
                    simp [List.getElem?_drop]
                    rw [Nat.min_eq_left (by omega), Nat.sub_self, Nat.add_zero]
                    exact Hge.out
                  have := hgc4 (k * 8) (by omega)
                  rw [this]
                  exact vflat_at _ k x hrk 0 (by omega)
                have hf0 := hgc5 (k * 8)
                have hst := HOc.out.stored (k * 8) (.int .i64 64)
                rw [mv_store xs k x Hge.out Hmv.out.symm] at hst
                have Hst := Lib.hid hst.1
                have HS := Lib.hid (HRc.out.set hg1 (k * 8) (.int .i64 64))
                clear hst hgc4 hgc5
                go_wp2_with fail
                go_roundw
                case rel => exact ⟨k + 1, by omega, by go_num, HS, Hst, HE2⟩
                case measure => simp [intOf]; omega
              | false =>
                subst hmc
                rw [mv_same xs k x Hge.out Hmv.out.symm] at HOc
                go_wp2_with fail
                go_roundw
                case rel => exact ⟨k + 1, by omega, by go_num, HRc, HOc, HE2⟩
                case measure => simp [intOf]; omega
      · have hkN : k = N := by omega
        subst hkN
        have HEa := Lib.hid (fun i (hi : i ∈ insts) => (show S.einst slots i = true by
          rw [hfi] at hi
          obtain ⟨y, hy, rfl⟩ := List.mem_map.1 hi
          exact HE.out y (by rw [HN.out, List.take_length]; exact hy)))
        have ho9 := HO.out
        rw [HN.out, mv_all, ← HN.out] at ho9
        have hi := i_Check ⟨fn, regs, slots, need, params, rest, (xs.map mvV).map VL.i⟩ A' c' (xs.map mvV) rfl wr (VLs.of_own ho9) (fun y hy => by
          obtain ⟨z, hz, rfl⟩ := List.mem_map.1 hy
          exact (((hok z hz).below HR.out.1).more HR.out.1.size).mv) (by rw [List.length_map, ← HN.out]; exact hlen)
        rw [List.length_map, ← HN.out, mv_insts, ← hfi] at hi
        simp only [vfCells] at hi
        rw [← Hall.out HEa.out] at hi
        have Hi := Lib.hid hi
        have HC := fun j => (show wr.cell? ⟨w.heap.size + 1 + 1, j, none⟩ = #[.int .i64 fn, .int .i64 regs, .int .i64 slots, .int .i64 need, .int .i64 params, .bool rest, .slice A' k c'][j]? by
          rw [show w.heap.size + 1 + 1 = w.heap.size + 2 by omega, Lib.cell_of_heap HR.out.2.2.2])
        have p0 := HC 0
        have p1 := HC 1
        have p2 := HC 2
        have p3 := HC 3
        have p4 := HC 4
        have p5 := HC 5
        have p6 := HC 6
        simp only [List.getElem?_toArray, List.getElem?_cons_zero, List.getElem?_cons_succ] at p0 p1 p2 p3 p4 p5 p6
        clear HC hi ho9 hok hfi hv
        go_wp2_with fail
        refine Hi.out.mono ?_
        rintro e w9 ⟨rfl, hb9⟩
        go_wp2_with fail
        go_ret
        exact ⟨rfl, HR.out.1.trans (hb9.mono HR.out.1.size)⟩

end Go.Proofs.YtidhglleeccpoaaDoor
