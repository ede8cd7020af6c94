/- Walk of isel.Check. -/
import Derived.Test.YtidhglleeccpoaaDoorEFrm
import Derived.Deep.CutRange
set_option linter.unusedVariables false
set_option linter.unusedSimpArgs false
set_option linter.unusedSectionVars false
namespace Go.Proofs.YtidhglleeccpoaaDoor
open Go.RowKit

theorem wf64i {n : Int} (h : -9223372036854775808 ≤ n ∧ n ≤ 9223372036854775807) : (Lit.int .i64 n).wf = true := by
  simp [Lit.wf, IntKind.min, IntKind.max, IntKind.signed, IntKind.bits]
  omega
theorem wpList_storeI' {ops : Array Oper} {rest : List Oper} {o : Oper} {a : Act} {Q : Exit → Act → World → Prop} {w : World} (hg : o.guard = none) (hd : o.dst = none) (mo x v : Operand) (hop : o.op = Op.mapUpdate 105 mo x v)
    (m n : Nat) (f : Int → Option Int) (hm : a.eval mo = .map (some m)) (h : MapI w m n f) (hn : n < 1152921504606846976) (s : Int) (q : Int) (hx : a.eval x = .int .i64 s) (hv : a.eval v = .int .i64 q) (hs : (Lit.int .i64 s).wf = true) (hq : (Lit.int .i64 q).wf = true)
    (hK : ∀ w', MapI w' m (n + 1) (fun t => if t = s then some q else f t) → w.grownBy w' (some m) → wpList Tryd.prog ops Q rest a w') : wpList Tryd.prog ops Q (o :: rest) a w := by
  refine wpList_storeI hg mo x v hop m n f hm h hn s q hx hv hs hq ?_
  intro w' h1 h2
  rw [hd]
  exact hK w' (h1.mono (by split <;> omega)) h2

/-- What the map tells: how often a label stands. -/
def cntF (l : List S.VInst) (t : Int) : Option Int := if S.vstands l t = 0 then none else some (S.vstands l t)
theorem cntF_get (l : List S.VInst) (t : Int) : (cntF l t).getD 0 = S.vstands l t := by
  unfold cntF
  split
  · rename_i h; rw [h]; rfl
  · rfl
theorem vst_add (l : List S.VInst) (i : S.VInst) (t : Int) : S.vstands (l ++ [i]) t = S.vstands l t + (if i.op = 65 ∧ i.label = t then 1 else 0) := by
  unfold S.vstands
  rw [List.filter_append, List.length_append]
  by_cases h : i.op = 65 ∧ i.label = t
  · simp [h]
  · rw [if_neg h]; simp [h]
theorem vst_nn (l : List S.VInst) (t : Int) : 0 ≤ S.vstands l t ∧ S.vstands l t ≤ l.length := by
  unfold S.vstands
  have := List.length_filter_le (fun i : S.VInst => decide (i.op = 65 ∧ i.label = t)) l
  omega
theorem cntF_add (l : List S.VInst) (i : S.VInst) (h : i.op = 65) : cntF (l ++ [i]) = fun t => if t = i.label then some (S.vstands l i.label + 1) else cntF l t := by
  funext t
  have hn := vst_nn l t
  unfold cntF
  rw [vst_add]
  by_cases ht : t = i.label
  · subst ht
    have e : (if i.op = 65 ∧ i.label = i.label then (1 : Int) else 0) = 1 := if_pos ⟨h, rfl⟩
    rw [e, if_neg (by omega), if_pos rfl]
  · have e : (if i.op = 65 ∧ i.label = t then (1 : Int) else 0) = 0 := if_neg (fun hh => ht hh.2.symm)
    rw [e, Int.add_zero, if_neg ht]
theorem cntF_not (l : List S.VInst) (i : S.VInst) (h : ¬ i.op = 65) : cntF (l ++ [i]) = cntF l := by
  funext t
  have e : (if i.op = 65 ∧ i.label = t then (1 : Int) else 0) = 0 := if_neg (fun hh => h hh.1)
  unfold cntF
  rw [vst_add, e, Int.add_zero]

/-- The registers that isel.Check looks at. -/
def vregs (i : S.VInst) : List Int := if ¬ i.op = 67 ∨ 0 ≤ i.d then ([i.a, i.b] ++ i.uses) ++ [i.d] else [i.a, i.b] ++ i.uses
theorem vinst_eq (regs : Int) (l : List S.VInst) (i : S.VInst) : S.vinst regs l i = !(!S.vform i || (vregs i).any (fun r => !S.regOf regs r) || (S.vgoes i && decide (¬ S.vstands l i.label = 1))) := by
  have h1 : (!((vregs i).any fun r => !S.regOf regs r)) = (i.uses.all (S.regOf regs) && S.regOf regs i.a && S.regOf regs i.b && (S.regOf regs i.d || decide (i.op = 67 ∧ i.d < 0))) := by
    have h2 : ∀ L : List Int, (!(L.any fun r => !S.regOf regs r)) = L.all (S.regOf regs) := fun L => by rw [List.all_eq_not_any_not]
    rw [h2]
    unfold vregs
    by_cases hc : ¬ i.op = 67 ∨ 0 ≤ i.d
    · rw [if_pos hc, decide_eq_false (fun h : i.op = 67 ∧ i.d < 0 => hc.elim (fun h' => h' h.1) (fun h' => by omega))]
      simp only [List.all_append, List.all_cons, List.all_nil, Bool.and_true, Bool.or_false]
      cases S.regOf regs i.a <;> cases S.regOf regs i.b <;> cases S.regOf regs i.d <;> simp
    · rw [if_neg hc, decide_eq_true (show i.op = 67 ∧ i.d < 0 by omega)]
      simp only [List.all_append, List.all_cons, List.all_nil, Bool.and_true, Bool.or_true]
      cases S.regOf regs i.a <;> cases S.regOf regs i.b <;> simp
  unfold S.vinst
  rw [Bool.not_or, Bool.not_or, Bool.not_not, h1, Bool.not_and]
  have h3 : (!decide (¬ S.vstands l i.label = 1)) = decide (S.vstands l i.label = 1) := by simp
  rw [h3]
  generalize S.vform i = a1
  generalize (!S.vgoes i || decide (S.vstands l i.label = 1)) = a2
  generalize i.uses.all (S.regOf regs) = a3
  generalize S.regOf regs i.a = a4
  generalize S.regOf regs i.b = a5
  generalize (S.regOf regs i.d || decide (i.op = 67 ∧ i.d < 0)) = a6
  cases a1 <;> cases a2 <;> cases a3 <;> cases a4 <;> cases a5 <;> cases a6 <;> rfl

def vhead (f : S.VFunc) : Prop := 32 ≤ f.regs ∧ 0 ≤ f.need ∧ 0 ≤ f.slots ∧ 0 ≤ f.params
theorem vchk_one (f : S.VFunc) (h : ¬ vhead f ∨ (∃ i ∈ f.insts, S.vinst f.regs f.insts i = false) ∨ S.vlast f.insts = false) : S.vchk f.regs f.need f.slots f.params f.insts = 2 := by
  unfold S.vchk
  rw [if_neg]
  intro hh
  obtain ⟨h12, h3⟩ := (Bool.and_eq_true _ _).mp hh
  obtain ⟨h1, h2⟩ := (Bool.and_eq_true _ _).mp h12
  rcases h with h | ⟨i, hi, h⟩ | h
  · have h1' := of_decide_eq_true h1
    exact h h1'
  · have := List.all_eq_true.1 h2 i hi
    rw [h] at this; cases this
  · rw [h] at h3; cases h3
theorem vchk_all (f : S.VFunc) (h : vhead f) (ha : ∀ i ∈ f.insts, S.vinst f.regs f.insts i = true) (hl : S.vlast f.insts = true) : S.vchk f.regs f.need f.slots f.params f.insts = 0 := by
  unfold S.vchk
  unfold vhead at h
  rw [if_pos]
  rw [decide_eq_true h, Bool.true_and, hl, Bool.and_true, List.all_eq_true]
  exact ha
theorem vlast_eq (xs : List VL) (x : VL) (h : xs[xs.length - 1]? = some x) : S.vlast (xs.map VL.i) = decide (x.i.op = 66 ∨ x.i.op = 68 ∨ x.i.op = 72) := by
  unfold S.vlast
  rw [List.getLast?_eq_getElem?, List.length_map, List.getElem?_map, h]; rfl

/-- What the rounds of isel.Check keep: the function's box, the map. -/
structure IcR (w : World) (F : Array Value) (l : List S.VInst) (wl : World) : Prop where
  below : Below w.heap.size w wl
  box : wl.heap[w.heap.size]? = some (.cells F 28 (0, 0))
  map : ∃ n, n ≤ l.length ∧ MapI wl (w.heap.size + 1) n (cntF l)
theorem IcR.keep {w : World} {F : Array Value} {l : List S.VInst} {wl w' : World} (h : IcR w F l wl) (hb : Below wl.heap.size wl w') : IcR w F l w' := by
  obtain ⟨h1, h2, n, h3, h4⟩ := h
  have hl : w.heap.size < wl.heap.size := by
    rcases Nat.lt_or_ge w.heap.size wl.heap.size with h' | h'
    · exact h'
    · simp [Array.getElem?_eq_none h'] at h2
  exact ⟨h1.trans (hb.mono h1.size), (hb.block _ hl).trans h2, n, h3, h4.below hb⟩
theorem IcR.lts {w : World} {F : Array Value} {l : List S.VInst} {wl : World} (h : IcR w F l wl) : w.heap.size + 1 < wl.heap.size := by
  obtain ⟨_, _, n, _, h4⟩ := h
  exact h4.lt
theorem IcR.cells {w : World} {F : Array Value} {l : List S.VInst} {wl : World} (h : IcR w F l wl) (j : Nat) : wl.cell? ⟨w.heap.size, j, none⟩ = F[j]? := by
  rw [Lib.cell_of_heap h.box]

set_option maxRecDepth 100000 in
set_option maxHeartbeats 1000000 in
theorem i_Check_bad (f : S.VFunc) (A : Option Addr) (c : Nat) (n : Nat) (w : World) (h : ¬ vhead f ∨ n = 0) :
    Calls Tryd.prog 33 #[.agg (vfCells f (.slice A n c))] w fun e w' => e = .returned (.int .i64 2) ∧ Below w.heap.size w w' := by
  obtain ⟨fn, regs, slots, need, params, rest, insts⟩ := f
  unfold vhead at h
  simp only at h
  unfold vfCells
  have hc : regs < 32 ∨ (32 ≤ regs ∧ need < 0) ∨ (32 ≤ regs ∧ 0 ≤ need ∧ slots < 0) ∨ (32 ≤ regs ∧ 0 ≤ need ∧ 0 ≤ slots ∧ params < 0) ∨ (32 ≤ regs ∧ 0 ≤ need ∧ 0 ≤ slots ∧ 0 ≤ params ∧ n = 0) := by omega
  clear h
  rcases hc with h1 | ⟨h1, h2⟩ | ⟨h1, h2, h3⟩ | ⟨h1, h2, h3, h4⟩ | ⟨h1, h2, h3, h4, rfl⟩
  all_goals
    go_enter Tryd.func33, Tryd.ntmps33
    go_wp2_with fail
    go_ret
    exact ⟨rfl, (Below.refl _ _).alloc (Nat.le_refl _) _⟩

set_option maxRecDepth 100000 in
set_option maxHeartbeats 4000000 in
theorem i_Check (f : S.VFunc) (A : Option Addr) (c : Nat) (xs : List VL) (hfi : f.insts = xs.map VL.i) (w : World) (hv : VLs w w.heap.size A xs) (hok : ∀ x ∈ xs, VOk w w.heap.size x) (hlen : xs.length ≤ 300) :
    Calls Tryd.prog 33 #[.agg (vfCells f (.slice A xs.length c))] w fun e w' => e = .returned (.int .i64 (S.vchk f.regs f.need f.slots f.params f.insts)) ∧ Below w.heap.size w w' := by
  by_cases hh : ¬ vhead f ∨ xs.length = 0
  · rw [vchk_one f (by
      rcases hh with h | h
      · exact Or.inl h
      · refine Or.inr (Or.inr ?_)
        rw [hfi, List.eq_nil_of_length_eq_zero h]; rfl)]
    exact i_Check_bad f A c xs.length w hh
  have hh1 : vhead f := Classical.byContradiction fun h => hh (Or.inl h)
  have hh2 : xs.length ≠ 0 := fun h => hh (Or.inr h)
  have Hall := Lib.hid (vchk_all f hh1)
  have Hone := Lib.hid (vchk_one f)
  have Hfi := Lib.hid hfi
  obtain ⟨fn, regs, slots, need, params, rest, insts⟩ := f
  unfold vhead at hh1
  simp only at hh1 hfi
  obtain ⟨h1, h2, h3, h4⟩ := hh1
  unfold vfCells
  obtain ⟨N, hN⟩ : ∃ N : Nat, N = xs.length := ⟨_, rfl⟩
  rw [← hN] at hlen hh2 ⊢
  have HN := Lib.hid hN
  have hNl : insts.length = N := by rw [hfi, List.length_map, ← hN]
  have HNl := Lib.hid hNl
  have Hins := Lib.hid (show ∀ (k : Nat) (x : VL), xs[k]? = some x → insts[k]? = some x.i from fun k x hx => by rw [hfi, List.getElem?_map, hx]; rfl)
  clear hN hh hNl hfi
  have Hv := Lib.hid hv
  have Hok := Lib.hid hok
  clear hv hok
  have hmm := @run_makeMap Tryd.prog
  have n1 : ¬ regs < 32 := by omega
  have n2 : ¬ need < 0 := by omega
  have n3 : ¬ slots < 0 := by omega
  have n4 : ¬ params < 0 := by omega
  go_enter Tryd.func33, Tryd.ntmps33
  go_wp2_with fail
  have R0 : IcR w #[.int .i64 fn, .int .i64 regs, .int .i64 slots, .int .i64 need, .int .i64 params, .bool rest, .slice A N c] (insts.take 0) ((w.alloc (.cells #[.int .i64 fn, .int .i64 regs, .int .i64 slots, .int .i64 need, .int .i64 params, .bool rest, .slice A N c] 28)).alloc (.map #[] 0)) := by
    have hz : (w.alloc (.cells #[.int .i64 fn, .int .i64 regs, .int .i64 slots, .int .i64 need, .int .i64 params, .bool rest, .slice A N c] 28)).heap.size = w.heap.size + 1 := by simp
    refine ⟨((Below.refl _ _).alloc (Nat.le_refl _) _).alloc (by simp) _, ?_, 0, Nat.zero_le _, ?_⟩
    · rw [((Below.refl _ _).alloc (Nat.le_refl _) _).block _ (by rw [hz]; omega)]
      exact heap_alloc_new w _
    · have := MapI.made (w.alloc (.cells #[.int .i64 fn, .int .i64 regs, .int .i64 slots, .int .i64 need, .int .i64 params, .bool rest, .slice A N c] 28))
      rw [hz] at this
      exact this
  have HR0 := Lib.hid R0
  clear R0 n1 n2 n3 n4
  go_loopw [5, 38] (fun _ v38 wl => ∃ k : Nat, k ≤ N ∧ v38 = .int .i64 k ∧ Hid (IcR w #[.int .i64 fn, .int .i64 regs, .int .i64 slots, .int .i64 need, .int .i64 params, .bool rest, .slice A N c] (insts.take k) wl)) (fun _ v38 _ => N - (intOf v38).toNat)
  case atStart => exact ⟨0, by omega, rfl, HR0⟩
  case round =>
    obtain ⟨k, hk, rfl, HR⟩ := hrel
    by_cases hlt : k < N
    · have hkx : k < xs.length := by rw [← HN.out]; exact hlt
      obtain ⟨b, off, x, hAe, hbB, hge, hVA⟩ := ((Hv.out.below HR.out.below)).at_ hkx
      subst hAe
      have Hox := Lib.hid ((Hok.out x (List.mem_of_getElem? hge)).label)
      have Hik := Lib.hid ((mv_split insts k x.i (Hins.out k x hge)).2)
      obtain ⟨q0, q1, q2, q3, q4, q5, q6, q7⟩ := hVA
      have ho5 : x.i.op = 65 ∨ ¬ x.i.op = 65 := by omega
      rcases ho5 with ho | ho
      · have Ho := Lib.hid ho
        rw [ho] at q0
        have hbk := Lib.hid ((Below.refl wr.heap.size wr).alloc (Nat.le_refl _) (.cells #[.int .i64 65, .int .i64 x.i.d, .int .i64 x.i.a, .int .i64 x.i.b, .int .i64 x.i.imm, .int .i64 x.i.label, .slice x.U x.i.uses.length x.cu, .slice x.M x.i.map.length x.cm] 25))
        have HRa := Lib.hid (HR.out.keep hbk.out)
        obtain ⟨n, hn, hm⟩ := HRa.out.map
        have hn' : n ≤ k := by rw [List.length_take] at hn; omega
        have hlook := hm.look (s := x.i.label) (wf64i Hox.out)
        rw [cntF_get] at hlook
        obtain ⟨v, hv⟩ : ∃ v, v = S.vstands (insts.take k) x.i.label := ⟨_, rfl⟩
        rw [← hv] at hlook
        have hvb := vst_nn (insts.take k) x.i.label
        rw [← hv, List.length_take] at hvb
        have hv0 : 0 ≤ v ∧ v ≤ 300 := by omega
        have Hvv := Lib.hid hv
        have Hm := Lib.hid hm
        clear hv hge ho hn hm hvb
        go_wp2_with (refine wpList_storeI' rfl rfl (.tmp 45) (.tmp 47) (.tmp 49) rfl _ n _ rfl Hm.out (by omega) x.i.label (v + 1) rfl (by rfl) (wf64i Hox.out) (wf64i (by omega)) ?_; intro w3 hm3 hg3)
        go_roundw
        case rel =>
          refine ⟨k + 1, by omega, by go_num, Lib.hid ?_⟩
          have hl := HRa.out.lts
          rw [Hik.out]
          refine ⟨below_of_grown HRa.out.below hg3 HRa.out.below.size (fun j hj => by cases hj; omega), (hg3.block _ (by omega) (by simp)).trans HRa.out.box, n + 1, ?_, ?_⟩
          · rw [List.length_append, List.length_take, List.length_singleton, HNl.out]
            omega
          · rw [cntF_add _ _ Ho.out, ← Hvv.out]
            exact hm3
        case measure => simp [intOf]; omega
      · have Ho := Lib.hid ho
        go_wp2_with fail
        go_roundw
        case rel =>
          refine ⟨k + 1, by omega, by go_num, Lib.hid ?_⟩
          have h9 := HR.out.keep ((Below.refl wr.heap.size wr).alloc (Nat.le_refl _) (.cells #[.int .i64 x.i.op, .int .i64 x.i.d, .int .i64 x.i.a, .int .i64 x.i.b, .int .i64 x.i.imm, .int .i64 x.i.label, .slice x.U x.i.uses.length x.cu, .slice x.M x.i.map.length x.cm] 25))
          rw [Hik.out]
          obtain ⟨a1, a2, n, a3, a4⟩ := h9
          exact ⟨a1, a2, n, by rw [List.length_append]; omega, by rw [cntF_not _ _ Ho.out]; exact a4⟩
        case measure => simp [intOf]; omega
    · have hkN : N = k := by omega
      subst hkN
      have ht : insts.take N = insts := by rw [← HNl.out, List.take_length]
      rw [ht] at HR
      have c6 : wr.cell? ⟨w.heap.size, 6, none⟩ = some (.slice A N c) := (HR.out.cells 6).trans rfl
      clear ht
      go_wp2_with fail
      clear c6
      go_loopw [7, 8, 9, 54] (fun _ _ _ v54 wl => ∃ j : Nat, j ≤ N ∧ v54 = .int .i64 j ∧ Hid (IcR w #[.int .i64 fn, .int .i64 regs, .int .i64 slots, .int .i64 need, .int .i64 params, .bool rest, .slice A N c] insts wl) ∧ Hid (∀ i ∈ insts.take j, S.vinst regs insts i = true)) (fun _ _ _ v54 _ => N - (intOf v54).toNat)
      case atStart => exact ⟨0, by omega, rfl, HR, Lib.hid (by simp)⟩
      case round =>
        clear HR HR0
        obtain ⟨j, hj, rfl, HR, HE⟩ := hrel
        by_cases hlt : j < N
        · have hjx : j < xs.length := by rw [← HN.out]; exact hlt
          obtain ⟨b, off, x, hAe, hbB, hge, hVA⟩ := ((Hv.out.below HR.out.below)).at_ hjx
          subst hAe
          have Hox := Lib.hid ((Hok.out x (List.mem_of_getElem? hge)).below HR.out.below)
          have Hge := Lib.hid (Hins.out j x hge)
          obtain ⟨q0, q1, q2, q3, q4, q5, q6, q7⟩ := hVA
          have hww := HR.out.below.size
          have hlts := HR.out.lts
          have h3b := three_below wr (.cells #[.int .i64 x.i.op, .int .i64 x.i.d, .int .i64 x.i.a, .int .i64 x.i.b, .int .i64 x.i.imm, .int .i64 x.i.label, .slice x.U x.i.uses.length x.cu, .slice x.M x.i.map.length x.cm] 25) (.cells #[.int .i64 x.i.a, .int .i64 x.i.b] 3) (.cells #[.slice (some ⟨wr.heap.size + 1, 0, none⟩) 2 2, .slice x.U x.i.uses.length x.cu] 23)
          have h3c := three_cells wr (.cells #[.int .i64 x.i.op, .int .i64 x.i.d, .int .i64 x.i.a, .int .i64 x.i.b, .int .i64 x.i.imm, .int .i64 x.i.label, .slice x.U x.i.uses.length x.cu, .slice x.M x.i.map.length x.cm] 25) (.cells #[.int .i64 x.i.a, .int .i64 x.i.b] 3) (.cells #[.slice (some ⟨wr.heap.size + 1, 0, none⟩) 2 2, .slice x.U x.i.uses.length x.cu] 23)
          obtain ⟨W3, hW3⟩ : ∃ W3, W3 = (((wr.alloc (.cells #[.int .i64 x.i.op, .int .i64 x.i.d, .int .i64 x.i.a, .int .i64 x.i.b, .int .i64 x.i.imm, .int .i64 x.i.label, .slice x.U x.i.uses.length x.cu, .slice x.M x.i.map.length x.cm] 25)).alloc (.cells #[.int .i64 x.i.a, .int .i64 x.i.b] 3)).alloc (.cells #[.slice (some ⟨wr.heap.size + 1, 0, none⟩) 2 2, .slice x.U x.i.uses.length x.cu] 23)) := ⟨_, rfl⟩
          rw [← hW3] at h3b h3c
          have hs3 : W3.heap.size = wr.heap.size + 3 := by rw [hW3]; simp
          have hcc := s_Concat W3.heap.size (wr.heap.size + 1 + 1) W3 (some ⟨wr.heap.size + 1, 0, none⟩) x.U [x.i.a, x.i.b] x.i.uses 2 x.cu h3c.2.2 (ints2 h3c.2.1 (by omega)) ((Hox.out.us.below (h3b.mono hww)).more (by omega)) (Nat.le_refl _) (by simp) (by simp) (by have := Hox.out.ul; omega) (fun e => by cases e) Hox.out.un
          obtain ⟨L, hL⟩ : ∃ L, L = [x.i.a, x.i.b] ++ x.i.uses := ⟨_, rfl⟩
          have hLl : L.length ≤ 42 := by rw [hL]; have := Hox.out.ul; simp; omega
          rw [← hL] at hcc
          obtain ⟨n8, hn8⟩ : ∃ n8, n8 = L.length := ⟨_, rfl⟩
          rw [← hn8] at hcc
          have HL := Lib.hid hL
          have Hn8 := Lib.hid hn8
          have hn8l : n8 ≤ 42 := by rw [hn8]; exact hLl
          have HW3 := Lib.hid hW3
          have H3b := Lib.hid h3b
          have H3c := Lib.hid h3c
          have Hs3 := Lib.hid hs3
          rw [hW3] at hcc
          have Hcc := Lib.hid hcc
          clear hcc hL hn8 hW3 h3b h3c hs3 hge hLl
          go_wp2_with fail
          refine Hcc.out.mono ?_
          rintro e w5 ⟨⟨A8, c8, rfl, ho8⟩, hb5⟩
          rw [← HW3.out] at ho8 hb5
          have hb35 := H3b.out.trans (hb5.mono H3b.out.size)
          have hbx5 := (hb5.block wr.heap.size (by rw [Hs3.out]; omega)).trans H3c.out.1
          have hz35 : wr.heap.size + 3 ≤ w5.heap.size := by have := hb5.size; rw [Hs3.out] at this; exact this
          have HR5 := Lib.hid (HR.out.keep hb35)
          have Hbx5 := Lib.hid hbx5
          have c0 : w5.cell? ⟨wr.heap.size, 0, none⟩ = some (.int .i64 x.i.op) := by rw [Lib.cell_of_heap hbx5]; rfl
          have c1 : w5.cell? ⟨wr.heap.size, 1, none⟩ = some (.int .i64 x.i.d) := by rw [Lib.cell_of_heap hbx5]; rfl
          have Ho8 := Lib.hid ho8
          clear ho8 hb5 hb35 hbx5 Hcc H3b HW3 q0 q1 q2 q3 q4 q5 q6 q7 HR
          go_upto_region 14 with fail
          have Hrg := Lib.hid (show vregs x.i = if ¬ x.i.op = 67 ∨ 0 ≤ x.i.d then L ++ [x.i.d] else L by rw [HL.out]; rfl)
          go_cut [74] from 55 to 116 (fun v74 wc => v74 = .bool (decide (¬ x.i.op = 67 ∨ 0 ≤ x.i.d)) ∧ w5 = wc)
          case first =>
            by_cases o1 : x.i.op = 67
            · have Ho1 := Lib.hid o1
              rw [o1] at c0
              by_cases o2 : 0 ≤ x.i.d
              · have Ho2 := Lib.hid o2
                go_wp2_with fail
                go_meet
                case rel => exact ⟨by rw [decide_eq_true (Or.inr Ho2.out)], rfl⟩
              · have Ho2 := Lib.hid o2
                go_wp2_with fail
                go_meet
                case rel => exact ⟨by rw [decide_eq_false (fun h => h.elim (fun h' => h' Ho1.out) (fun h' => by have := Ho2.out; omega))], rfl⟩
            · have Ho1 := Lib.hid o1
              go_wp2_with fail
              go_meet
              case rel => exact ⟨by rw [decide_eq_true (Or.inl Ho1.out)], rfl⟩
          case rest =>
            obtain ⟨rfl, rfl⟩ := hcut
            go_upto_if 74 with fail
            go_cut [8] from 55 to 116 (fun v8 wc => wc.ownsRow W3.heap.size 3 1 v8 (vregs x.i).length ((vregs x.i).map (Value.int .i64)) ∧ Below W3.heap.size w5 wc ∧ Hid (IcR w #[.int .i64 fn, .int .i64 regs, .int .i64 slots, .int .i64 need, .int .i64 params, .bool rest, .slice (some ⟨b, off, none⟩) N c] insts wc))
            case first =>
              by_cases q : (¬ x.i.op = 67 ∨ 0 ≤ x.i.d)
              · rw [if_pos q] at Hrg
                rw [decide_eq_true q]
                clear q
                go_wp2_with (at_builtin
                             refine wpList_push rfl (.tmp 75) (.tmp 78) _ rfl W3.heap.size 3 int_info Tryd.underlying23 rfl (by decide) #[.int .i64 x.i.d] _ _ _ rfl Ho8.out rfl rfl rfl (by simp [Value.oneCell']) (by simp only [maxLen]; omega) (by omega) (by rw [Hs3.out]; omega) ?_
                             intro v' w' ho' hg' hb' _)
                go_meet
                case rel =>
                  refine ⟨?_, hb', Lib.hid (IcR.mk (HR5.out.below.trans (hb'.mono (by rw [Hs3.out]; omega))) ((hb'.block _ (by rw [Hs3.out]; omega)).trans HR5.out.box) ?_)⟩
                  case refine_2 =>
                    obtain ⟨n, hn, hm⟩ := HR5.out.map
                    exact ⟨n, hn, hm.kept hg' (fun e => by have := (Ho8.out.lt (w.heap.size + 1) e.symm).1; rw [Hs3.out] at this; omega)⟩
                  rw [Hrg.out, List.length_append, List.map_append, ← Hn8.out]
                  exact ho'
              · rw [if_neg q] at Hrg
                rw [decide_eq_false q]
                clear q
                go_wp2_with fail
                go_meet
                case rel =>
                  refine ⟨?_, Below.refl _ _, HR5⟩
                  rw [Hrg.out, ← Hn8.out]
                  exact Ho8.out
            case rest =>
              obtain ⟨ho9, hb9, HR9⟩ := hcut
              obtain ⟨A9, c9, rfl⟩ := ownsRow_form ho9
              have hbx9 := (hb9.block wr.heap.size (by rw [Hs3.out]; omega)).trans Hbx5.out
              have c0 : wc.cell? ⟨wr.heap.size, 0, none⟩ = some (.int .i64 x.i.op) := by rw [Lib.cell_of_heap hbx9]; rfl
              have Hbx9 := Lib.hid hbx9
              have Ho9 := Lib.hid ho9
              have hz9 : wr.heap.size < wc.heap.size := by have := hb9.size; omega
              clear hb9 hbx9 ho9
              obtain ⟨n9, hn9⟩ : ∃ n9, n9 = (vregs x.i).length := ⟨_, rfl⟩
              rw [← hn9] at Ho9 ⊢
              have Hn9 := Lib.hid hn9
              have hn9l : n9 ≤ 43 := by
                have := Hn8.out
                rw [hn9, Hrg.out]
                split
                · rw [List.length_append, List.length_singleton]; omega
                · omega
              clear hn9
              go_upto_region 16 with fail
              go_cut [9] from 55 to 116 (fun v9 wd => v9 = .bool (S.vgoes x.i) ∧ wc = wd)
              case first =>
                have Hvg := Lib.hid (show S.vgoes x.i = decide ((26 ≤ x.i.op ∧ x.i.op ≤ 31) ∨ x.i.op = 66 ∨ x.i.op = 65) from rfl)
                have ho : x.i.op < 26 ∨ (26 ≤ x.i.op ∧ x.i.op ≤ 31) ∨ (31 < x.i.op ∧ x.i.op ≠ 65 ∧ x.i.op ≠ 66) ∨ x.i.op = 65 ∨ x.i.op = 66 := by omega
                rcases ho with o | ⟨o, o'⟩ | ⟨o, o', o''⟩ | o | o
                · have Ho := Lib.hid o
                  have o1 : ¬ x.i.op = 65 := by omega
                  have o2 : ¬ x.i.op = 66 := by omega
                  have o3 : ¬ 26 ≤ x.i.op := by omega
                  go_wp2_with fail
                  go_meet
                  case rel => exact ⟨by rw [Hvg.out, decide_eq_false (by have := Ho.out; omega)]; simp [o1, o2], rfl⟩
                · have Ho := Lib.hid (And.intro o o')
                  go_wp2_with fail
                  go_meet
                  case rel => exact ⟨by rw [Hvg.out, decide_eq_true (by have := Ho.out; omega)], rfl⟩
                · have Ho := Lib.hid (And.intro o (And.intro o' o''))
                  have o1 : ¬ x.i.op ≤ 31 := by omega
                  have o2 : 26 ≤ x.i.op := by omega
                  go_wp2_with fail
                  go_meet
                  case rel => exact ⟨by rw [Hvg.out, decide_eq_false (by have := Ho.out; omega)]; simp [o', o''], rfl⟩
                all_goals
                  have Ho := Lib.hid o
                  rw [o] at c0
                  clear o
                  go_wp2_with fail
                  go_meet
                  case rel => exact ⟨by rw [Hvg.out, decide_eq_true (by have := Ho.out; omega)], rfl⟩
              case rest =>
                obtain ⟨rfl, rfl⟩ := hcut
                have Hvi := Lib.hid (vinst_eq regs insts x.i)
                have hf := fun W => i_formed x.i (.slice x.U x.i.uses.length x.cu) (.slice x.M x.i.map.length x.cm) W
                simp only [viCells] at hf
                have Hf := Lib.hid hf
                have HC := fun j => (show wc.cell? ⟨wr.heap.size, j, none⟩ = #[.int .i64 x.i.op, .int .i64 x.i.d, .int .i64 x.i.a, .int .i64 x.i.b, .int .i64 x.i.imm, .int .i64 x.i.label, .slice x.U x.i.uses.length x.cu, .slice x.M x.i.map.length x.cm][j]? by rw [Lib.cell_of_heap Hbx9.out])
                have c1 := HC 1
                have c2 := HC 2
                have c3 := HC 3
                have c4 := HC 4
                have c5 := HC 5
                have c6 := HC 6
                have c7 := HC 7
                simp only [List.getElem?_toArray, List.getElem?_cons_zero, List.getElem?_cons_succ] at c1 c2 c3 c4 c5 c6 c7
                clear hf HC
                obtain ⟨vf, hvf⟩ : ∃ vf, vf = S.vform x.i := ⟨_, rfl⟩
                obtain ⟨vg, hvg⟩ : ∃ vg, vg = S.vgoes x.i := ⟨_, rfl⟩
                obtain ⟨va, hva⟩ : ∃ va, va = (vregs x.i).any (fun r => !S.regOf regs r) := ⟨_, rfl⟩
                obtain ⟨vn, hvn⟩ : ∃ vn, vn = S.vstands insts x.i.label := ⟨_, rfl⟩
                rw [← hvf] at Hf Hvi
                rw [← hvg] at Hvi ⊢
                rw [← hva, ← hvn] at Hvi
                have Hva := Lib.hid hva
                have Hvn := Lib.hid hvn
                clear hvf hvg hva hvn
                go_upto_region 17 with fail
                go_cut [115] from 55 to 116 (fun v115 wd => v115 = .bool (!S.vinst regs insts x.i) ∧ Below wc.heap.size wc wd)
                case first =>
                  cases hq : vf with
                  | false =>
                    subst hq
                    go_wp2_with fail
                    refine (Hf.out _).mono ?_
                    rintro e w10 ⟨rfl, hb10⟩
                    go_wp2_with fail
                    go_meet
                    case rel => exact ⟨by rw [Hvi.out]; simp, hb10⟩
                  | true =>
                    subst hq
                    go_wp2_with fail
                    refine (Hf.out _).mono ?_
                    rintro e w10 ⟨rfl, hb10⟩
                    have hlt0 : w.heap.size < wc.heap.size := by omega
                    have hr10 : w10.cell? ⟨w.heap.size, 1, none⟩ = some (.int .i64 regs) := (hb10.cell (p := ⟨w.heap.size, 1, none⟩) hlt0).trans ((HR9.out.cells 1).trans rfl)
                    have hcf := s_ContainsFunc w10.heap.size 60 #[.pointer (some ⟨w.heap.size, 0, none⟩)] (fun r => !S.regOf regs r) enters_ichk1 w10 (p_ichk1 _ _ regs w10 hr10 (Nat.lt_of_lt_of_le hlt0 hb10.size)) A9 (vregs x.i) c9 (Ints.of_own (ownsRow_below Ho9.out hb10)) (by rw [← Hn9.out]; omega)
                    rw [← Hn9.out, ← Hva.out] at hcf
                    have Hcf := Lib.hid hcf
                    have Hb10 := Lib.hid hb10
                    clear hcf hr10 hb10 c1 c2 c3 c4 c5 c6 c7 c0
                    go_wp2_with fail
                    refine Hcf.out.mono ?_
                    rintro e w11 ⟨rfl, hb11⟩
                    have hb911 := Hb10.out.trans (hb11.mono Hb10.out.size)
                    have Hb911 := Lib.hid hb911
                    cases hq : va with
                    | true =>
                      subst hq
                      clear hb11 hb911
                      go_wp2_with fail
                      go_meet
                      case rel => exact ⟨by rw [Hvi.out]; simp, Hb911.out⟩
                    | false =>
                      subst hq
                      cases hq : vg with
                      | false =>
                        subst hq
                        clear hb11 hb911
                        go_wp2_with fail
                        go_meet
                        case rel => exact ⟨by rw [Hvi.out]; simp, Hb911.out⟩
                      | true =>
                        subst hq
                        have c5 : w11.cell? ⟨wr.heap.size, 5, none⟩ = some (.int .i64 x.i.label) := by rw [Lib.cell_of_heap ((hb911.block _ hz9).trans Hbx9.out)]; rfl
                        obtain ⟨n, hn, hm⟩ := (HR9.out.keep hb911).map
                        have hlook := hm.look (s := x.i.label) (wf64i Hox.out.label)
                        rw [cntF_get, ← Hvn.out] at hlook
                        clear hm hb11 hb911
                        go_wp2_with fail
                        go_meet
                        case rel => exact ⟨by rw [Hvi.out]; by_cases h : vn = 1 <;> simp [h], Hb911.out⟩
                case rest =>
                  obtain ⟨rfl, hbd⟩ := hcut
                  have HRd := Lib.hid (HR9.out.keep hbd)
                  have Hil := Lib.hid ((mv_split insts j x.i Hge.out).2)
                  clear hbd c0 c1 c2 c3 c4 c5 c6 c7
                  cases hq : S.vinst regs insts x.i with
                  | false =>
                    have Hq := Lib.hid hq
                    clear hq
                    go_wp2_with fail
                    go_ret
                    refine ⟨?_, HRd.out.below⟩
                    rw [Hone.out (Or.inr (Or.inl ⟨x.i, List.mem_of_getElem? Hge.out, Hq.out⟩))]
                    rfl
                  | true =>
                    have Hq := Lib.hid hq
                    clear hq
                    go_wp2_with fail
                    go_roundw
                    case rel =>
                      refine ⟨j + 1, by omega, by go_num, HRd, Lib.hid (fun y hy => ?_)⟩
                      rw [Hil.out] at hy
                      rcases List.mem_append.1 hy with hy | hy
                      · exact HE.out y hy
                      · have : y = x.i := by simpa using hy
                        rw [this]; exact Hq.out
                    case measure => simp [intOf]; omega
        · have hjN : N = j := by omega
          subst hjN
          have hlx : xs.length - 1 < xs.length := by rw [← HN.out]; omega
          obtain ⟨b, off, x, hAe, hbB, hge, hVA⟩ := ((Hv.out.below HR.out.below)).at_ hlx
          rw [← HN.out] at hVA
          subst hAe
          have Hvl := Lib.hid (vlast_eq xs x hge)
          obtain ⟨q0, q1, q2, q3, q4, q5, q6, q7⟩ := hVA
          have c6 : wr.cell? ⟨w.heap.size, 6, none⟩ = some (.slice (some ⟨b, off, none⟩) N c) := (HR.out.cells 6).trans rfl
          have hw1 : IntKind.i64.wrap ((N : Int) - 1) = ((N - 1 : Nat) : Int) := by rw [IntWalk.i64_in _ (by omega)]; omega
          have hb1 : (0 : Int) ≤ ((N - 1 : Nat) : Int) := by omega
          have hb2 : ((N - 1 : Nat) : Int) < (N : Int) := by omega
          have hit : insts.take N = insts := by rw [← HNl.out, List.take_length]
          rw [hit] at HE
          clear hge q1 q2 q3 q4 q5 q6 q7 hit
          have ho : x.i.op = 66 ∨ x.i.op = 68 ∨ x.i.op = 72 ∨ (x.i.op ≠ 66 ∧ x.i.op ≠ 68 ∧ x.i.op ≠ 72) := by omega
          rcases ho with o | o | o | ⟨o, o', o''⟩
          · have Ho := Lib.hid o
            rw [o] at q0
            clear o
            go_wp2_with fail
            go_ret
            exact ⟨by rw [Hall.out HE.out (by rw [Hfi.out, Hvl.out, decide_eq_true (by have := Ho.out; omega)])]; rfl, HR.out.below⟩
          · have Ho := Lib.hid o
            rw [o] at q0
            clear o
            go_wp2_with fail
            go_ret
            exact ⟨by rw [Hall.out HE.out (by rw [Hfi.out, Hvl.out, decide_eq_true (by have := Ho.out; omega)])]; rfl, HR.out.below⟩
          · have Ho := Lib.hid o
            rw [o] at q0
            clear o
            go_wp2_with fail
            go_ret
            exact ⟨by rw [Hall.out HE.out (by rw [Hfi.out, Hvl.out, decide_eq_true (by have := Ho.out; omega)])]; rfl, HR.out.below⟩
          · have Ho := Lib.hid (And.intro o (And.intro o' o''))
            go_wp2_with fail
            go_ret
            exact ⟨by rw [Hone.out (Or.inr (Or.inr (by rw [Hfi.out, Hvl.out, decide_eq_false (by have := Ho.out; omega)])))]; rfl, HR.out.below⟩

end Go.Proofs.YtidhglleeccpoaaDoor
