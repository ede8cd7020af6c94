/- AsmA, OwnB, OwnC: joined.  append of many elements of more than one cell. -/
import Derived.Test.YtidhglleeccpoaaDoorIsaD
import Derived.Test.YtidhglleeccpoaaDoorExt
import Derived.Test.YtidhglleeccpoaaDoorOwn
import Derived.Deep.RegionWith
section
set_option linter.unusedVariables false
set_option linter.unusedSimpArgs false
set_option linter.unusedSectionVars false
namespace Go.Proofs.YtidhglleeccpoaaDoor
open Go.RowKit

set_option maxRecDepth 100000 in
set_option maxHeartbeats 400000 in
theorem asm_size (k op d a b imm : Int) (lab : ByteArray) (wd form : Int) (w : World) (h3 : k = 3 → 1 ≤ form ∧ form ≤ 3) (h4 : k = 4 → 1 ≤ form ∧ form ≤ 2) (hw0 : 0 ≤ wd) (hw1 : wd ≤ 4294967295) :
    Calls Tryd.prog 63 #[.agg #[.int .i64 k, .int .i64 op, .int .i64 d, .int .i64 a, .int .i64 b, .int .i64 imm, .string lab, .int .u32 wd], .int .i64 form] w
      fun e w' => e = .returned (.int .i64 (S.size ⟨k, ⟨op, d, a, b, imm⟩, lab, wd⟩ form)) ∧ Below w.heap.size w w' := by
  by_cases c3 : k = 3
  · obtain ⟨f1, f2⟩ := h3 c3
    clear h3 h4
    subst c3
    have hf : form = 1 ∨ form = 2 ∨ form = 3 := by omega
    clear f1 f2
    have ix : ∀ w : World, (Instr.index 126 (.agg #[.int .i64 0, .int .i64 1, .int .i64 2, .int .i64 4]) (.int .i64 1)).run Tryd.prog w = .ok (.int .i64 1) w := fun _ => by kernel_rfl
    have iy : ∀ w : World, (Instr.index 126 (.agg #[.int .i64 0, .int .i64 1, .int .i64 2, .int .i64 4]) (.int .i64 2)).run Tryd.prog w = .ok (.int .i64 2) w := fun _ => by kernel_rfl
    have iz : ∀ w : World, (Instr.index 126 (.agg #[.int .i64 0, .int .i64 1, .int .i64 2, .int .i64 4]) (.int .i64 3)).run Tryd.prog w = .ok (.int .i64 4) w := fun _ => by kernel_rfl
    rcases hf with rfl | rfl | rfl
    all_goals
      go_enter Tryd.func63, Tryd.ntmps63
      go_wp2
      go_ret
      exact ⟨ret_int (by simp [S.size]), (Below.refl _ _).alloc (Nat.le_refl _) _⟩
  · by_cases c4 : k = 4
    · obtain ⟨f1, f2⟩ := h4 c4
      clear h3 h4 c3
      subst c4
      have hf : form = 1 ∨ form = 2 := by omega
      clear f1 f2
      have ix : ∀ w : World, (Instr.index 127 (.agg #[.int .i64 0, .int .i64 1, .int .i64 3]) (.int .i64 1)).run Tryd.prog w = .ok (.int .i64 1) w := fun _ => by kernel_rfl
      have iy : ∀ w : World, (Instr.index 127 (.agg #[.int .i64 0, .int .i64 1, .int .i64 3]) (.int .i64 2)).run Tryd.prog w = .ok (.int .i64 3) w := fun _ => by kernel_rfl
      rcases hf with rfl | rfl
      all_goals
        go_enter Tryd.func63, Tryd.ntmps63
        go_wp2
        go_ret
        exact ⟨ret_int (by simp [S.size]), (Below.refl _ _).alloc (Nat.le_refl _) _⟩
    · clear h3 h4
      have d3 : (k == 3) = false := by simp [c3]
      have d4 : (k == 4) = false := by simp [c4]
      go_enter Tryd.func63, Tryd.ntmps63
      go_wp2
      all_goals
        go_ret
        exact ⟨ret_int (by simp_all [S.size]), (Below.refl _ _).alloc (Nat.le_refl _) _⟩

set_option maxHeartbeats 400000 in
theorem asm_named (k op d a b imm : Int) (lab : ByteArray) (wd : Int) (w : World) :
    Calls Tryd.prog 45 #[.agg #[.int .i64 k, .int .i64 op, .int .i64 d, .int .i64 a, .int .i64 b, .int .i64 imm, .string lab, .int .u32 wd]] w
      fun e w' => e = .returned (.bool (S.named ⟨k, ⟨op, d, a, b, imm⟩, lab, wd⟩)) ∧ Below w.heap.size w w' := by
  go_enter Tryd.func45, Tryd.ntmps45
  go_wp2
  all_goals
    go_ret
    exact ⟨ret_bool (by simp only [S.named]; grind), (Below.refl _ _).alloc (Nat.le_refl _) _⟩

set_option maxHeartbeats 1000000 in
theorem asm_check (k op d a b imm : Int) (lab : ByteArray) (wd : Int) (w : World) :
    Calls Tryd.prog 44 #[.agg #[.int .i64 k, .int .i64 op, .int .i64 d, .int .i64 a, .int .i64 b, .int .i64 imm, .string lab, .int .u32 wd]] w
      fun e w' => e = .returned (.int .i64 (S.chkItem ⟨k, ⟨op, d, a, b, imm⟩, lab, wd⟩)) ∧ Below w.heap.size w w' := by
  by_cases c3 : k = 3
  · subst c3
    go_enter Tryd.func44, Tryd.ntmps44
    go_wp2
    refine wp_region_ext (by kernel_rfl) (by kernel_rfl) ?_
    have hE := ext_cells (w.alloc (.cells #[.int .i64 3, .int .i64 op, .int .i64 d, .int .i64 a, .int .i64 b, .int .i64 imm, .string lab, .int .u32 wd] 39))
    repeat (first
      | go_big_quiet_step ((first
        | (go_at_call 50; exact ext_of_same (asm_Turned _ _))
        | (go_at_call 62; exact ext_of (isa_Check _ _ _ _ _ _)))))
    refine wpQuiet_nil ?_
    rintro _ ⟨⟨w1, hb1⟩, rfl⟩
    go_wp2
    go_ret
    refine ⟨ret_int ?_, ((Below.refl _ _).alloc (Nat.le_refl _) _).trans (hb1.mono (by simp))⟩
    simp only [chk_turned]
    simp [S.chkItem]
  · have d3 : (k == 3) = false := by simp [c3]
    go_enter Tryd.func44, Tryd.ntmps44
    go_wp2_with (go_at_call 62; refine (isa_Check _ _ _ _ _ _).mono ?_; rintro e w' ⟨rfl, hb⟩)
    all_goals
      go_ret
      first
        | exact ⟨ret_int (by first | (simp only [chk_jump]; grind [S.chkItem, S.chk]) | grind [S.chkItem, S.chk]), ((Below.refl _ _).alloc (Nat.le_refl _) _).trans (Below.mono ‹_› (by simp))⟩
        | exact ⟨ret_int (by grind [S.chkItem, S.chk]), (Below.refl _ _).alloc (Nat.le_refl _) _⟩

end Go.Proofs.YtidhglleeccpoaaDoor
end

section
set_option linter.unusedVariables false
set_option linter.unusedSimpArgs false
set_option linter.unusedSectionVars false
namespace Go.Proofs.YtidhglleeccpoaaDoor
open Go.RowKit

/-- make([]T, n), T of one cell. -/
theorem wpList_makeN {P : Program} {ops : Array Oper} {rest : List Oper} {o : Oper} {a : Act} {Q : Exit → Act → World → Prop} {w : World}
    (hg : o.guard = none) (l c : Operand) (t : TypeId) (hop : o.op = Op.makeSlice t l c)
    (base : Nat) (e : TypeId) {z : Value} {bytes : Nat} (hinfo : (P.info? e).map (fun i => (i.zero, i.size, i.bytes)) = some (some z, 1, bytes)) (h1 : P.underlying t = some (.slice e)) (hz : z.cells = #[z])
    (kl kc : IntKind) (L C : Int) (n : Nat) (hl : a.eval l = .int kl L) (hc : a.eval c = .int kc C) (hL : L = (n : Int)) (hC : C = (n : Int)) (b2 : bytes * n ≤ 281474976710656) (b3 : n ≤ maxLen) (b4 : base ≤ w.heap.size)
    (hK : ∀ w', w'.ownsRow base e 1 (.slice (some ⟨w.heap.size, 0, none⟩) n n) n (List.replicate n z) → Below w.heap.size w w' → wpList P ops Q rest (a.put o.dst (.slice (some ⟨w.heap.size, 0, none⟩) n n)) w') :
    wpList P ops Q (o :: rest) a w := by
  obtain ⟨i, hi, hzz, hsize, hby⟩ := info_parts hinfo
  refine wpList_make_full w hg l c t hop base e i z 1 h1 hi hzz hsize kl kc L C n hl hc hL hC (by rw [hby]; exact b2) b3 b4 fun w' ho hgr => hK w' ?_ ((Below.refl _ _).grown hgr (Nat.le_refl _) (by simp))
  rw [hz, Nat.mul_one, toList_madeCells_one] at ho
  exact ho

/-- Two rows of unlike element types lie in unlike blocks. -/
theorem rows_ne {w : World} {base base' : Nat} {e e' : TypeId} {size size' n n' : Nat} {v v' : Value} {xs xs' : List Value} (h : w.ownsRow base e size v n xs) (h' : w.ownsRow base' e' size' v' n' xs') (hne : e ≠ e') :
    v.ownBlock = none ∨ v.ownBlock ≠ v'.ownBlock := by
  rcases h.2 with ⟨rfl, _⟩ | ⟨g, cap, cur, rfl, _, hg, _⟩
  · exact .inl rfl
  · right
    rcases h'.2 with ⟨rfl, _⟩ | ⟨g', cap', cur', rfl, _, hg', _⟩
    · simp [Value.ownBlock]
    · intro he
      have : g = g' := by simpa [Value.ownBlock] using he
      subst this
      rw [hg] at hg'
      injection hg' with hg'
      injection hg' with _ ht
      exact hne ht
/-- A row is kept by an append to a row of another element type. -/
theorem ownsRow_other {w w' : World} {base base' : Nat} {e e' : TypeId} {size size' n n' : Nat} {v v' : Value} {xs xs' : List Value} (h : w.ownsRow base e size v n xs) (h' : w.ownsRow base' e' size' v' n' xs') (hne : e ≠ e')
    (hg : w.grownBy w' v'.ownBlock) : w'.ownsRow base e size v n xs := h.kept hg (rows_ne h h' hne)

theorem ownsRow_none {w : World} {base : Nat} {e : TypeId} {size : Nat} {A : Option Addr} {m c n : Nat} {xs : List Value} (h : w.ownsRow base e size (.slice A m c) n xs) (hA : A = none) : m = 0 := by
  subst hA
  rcases h.2 with ⟨h1, _⟩ | ⟨g, cap, cur, h1, _⟩
  · simp only [Value.slice.injEq] at h1; exact h1.2.1
  · simp at h1

end Go.Proofs.YtidhglleeccpoaaDoor
end

section
set_option linter.unusedVariables false
set_option linter.unusedSimpArgs false
set_option linter.unusedSectionVars false
namespace Go.Proofs.YtidhglleeccpoaaDoor
open Go.RowKit

/-- append(s, l...): a list of elements of so many cells behind a row of the call's own. -/
theorem wp_appendsN {P : Program} {o : Oper} {a : Act} {K : Act → World → Prop} {Q : Exit → Act → World → Prop} {w : World} (s x : Operand) (t : TypeId)
    (ho : o.op = .call { callee := .builtin .append, args := #[s, x], argTypes := #[t, t] })
    (base : Nat) (e : TypeId) {z : Value} {size bytes : Nat} (hinfo : (P.info? e).map (fun i => (i.zero, i.size, i.bytes)) = some (some z, size, bytes)) (ht : P.underlying t = some (.slice e))
    (hzs : z.cells.size = size) (hsz : 0 < size) (v : Value) (n : Nat) (xs : List Value) (hs : a.eval s = v) (hown : w.ownsRow base e size v n xs)
    (B : Nat) (A : Option Addr) (m c : Nat) (news : List Value) (hx : a.eval x = .slice A m c) (hm : news.length = m * size) (hA : A = none → m = 0) (hr : Reads w B A news) (h1 : ∀ u ∈ news, u.oneCell' = true)
    (h63 : n + m ≤ maxLen) (hbytes : (n + m) * bytes ≤ 140737488355328) (hbase : base ≤ w.heap.size)
    (h : ∀ v' w', w'.ownsRow base e size v' (n + m) (xs ++ news) → w.grownBy w' v.ownBlock → Below base w w' → (v'.ownBlock = v.ownBlock ∨ v'.ownBlock = some w.heap.size) → K (a.put o.dst v') w') :
    o.wp P a w K Q := by
  obtain ⟨i, hi, hz, hsize, hby⟩ := info_parts hinfo
  have hfin : ∃ v' w', (Builtin.append_ #[t, t] o.type #[v, .slice A m c]).run P w = .ok v' w' ∧ w'.ownsRow base e size v' (n + m) (xs ++ news) ∧ w.grownBy w' v.ownBlock ∧ (v'.ownBlock = v.ownBlock ∨ v'.ownBlock = some w.heap.size) := by
    rcases A with _ | ad
    · have h0 := hA rfl
      subst h0
      have hn : news = [] := List.eq_nil_of_length_eq_zero (by rw [hm]; simp)
      subst hn
      exact ⟨v, w, run_append_none w base t _ e i size ht hi v n xs hown c, by simpa using hown, World.grownBy.refl w _, .inl rfl⟩
    · have hcells : ∀ j u, news[j]? = some u → w.cell? (ad.add j) = some u := by
        intro j u hu
        have hlt := (List.getElem?_eq_some_iff.1 hu).1
        obtain ⟨b, off, he, hbB, hc⟩ := hr (by omega)
        cases he
        rw [Addr.add_mk]
        exact hc j u hu
      obtain ⟨v', w', hrun, h2, h3, _, h5⟩ := run_append_own_at (P := P) w base t o.type e i z size bytes ht hi hz hsize hby hzs hsz v n xs hown ad m c news hm hcells h1 h63 hbytes hbase
      exact ⟨v', w', hrun, h2, h3, h5⟩
  obtain ⟨v', w', hrun, h2, h3, h4⟩ := hfin
  unfold Oper.wp execOp
  simp only [ho, resolve, invoke, builtin, Sem.run_bind, Sem.run_pure, Result.andThen_ok, List.map_toArray, List.map_cons, List.map_nil, hs, hx, hrun]
  exact h v' w' h2 h3 ((Below.refl _ _).grown h3 hbase (fun k hk => (hown.lt k hk).1)) h4

theorem wpList_appendsN {P : Program} {ops : Array Oper} {rest : List Oper} {o : Oper} {a : Act} {Q : Exit → Act → World → Prop} {w : World} (hgd : o.guard = none) (s x : Operand) (t : TypeId)
    (ho : o.op = .call { callee := .builtin .append, args := #[s, x], argTypes := #[t, t] })
    (base : Nat) (e : TypeId) {z : Value} {size bytes : Nat} (hinfo : (P.info? e).map (fun i => (i.zero, i.size, i.bytes)) = some (some z, size, bytes)) (ht : P.underlying t = some (.slice e))
    (hzs : z.cells.size = size) (hsz : 0 < size) (v : Value) (n : Nat) (xs : List Value) (hs : a.eval s = v) (hown : w.ownsRow base e size v n xs)
    (B : Nat) (A : Option Addr) (m c : Nat) (news : List Value) (hx : a.eval x = .slice A m c) (hm : news.length = m * size) (hA : A = none → m = 0) (hr : Reads w B A news) (h1 : ∀ u ∈ news, u.oneCell' = true)
    (h63 : n + m ≤ maxLen) (hbytes : (n + m) * bytes ≤ 140737488355328) (hbase : base ≤ w.heap.size)
    (h : ∀ v' w', w'.ownsRow base e size v' (n + m) (xs ++ news) → w.grownBy w' v.ownBlock → Below base w w' → (v'.ownBlock = v.ownBlock ∨ v'.ownBlock = some w.heap.size) → wpList P ops Q rest (a.put o.dst v') w') :
    wpList P ops Q (o :: rest) a w :=
  wpList_plain hgd fun _ hK => wp_appendsN s x t ho base e hinfo ht hzs hsz v n xs hs hown B A m c news hx hm hA hr h1 h63 hbytes hbase fun v' w' h2 h3 h4 h5 => hK _ _ (h v' w' h2 h3 h4 h5)

end Go.Proofs.YtidhglleeccpoaaDoor
end
