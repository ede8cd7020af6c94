/- MapS, IsaA, IsaB, IsaC, IsaD, AsmA: joined.  Walks of the small functions of asm and pennantref03. -/
import Derived.Test.YtlldagdhlfpihaaGreatDoorZOwnC
import Derived.Test.YtlldagdhlfpihaaGreatDoorZExt
import Derived.Test.YtlldagdhlfpihaaGreatDoorProg
import Derived.Test.YtlldagdhlfpihaaGreatDoorZOwn
import Derived.Test.YtlldagdhlfpihaaGreatDoorZMachB
import Derived.Test.YtlldagdhlfpihaaGreatDoorZBSpec
import Derived.Maps.OwnOps
import Derived.Maps.OwnSet
import Derived.Deep.RegionWith
section
set_option linter.unusedVariables false
set_option linter.unusedSimpArgs false
set_option linter.unusedSectionVars false
namespace Go.Proofs.YtlldagdhlfpihaaGreatDoor
open Go.RowKit

theorem mapS_law : Maps.Keyed Tryz.prog 9 := Maps.string_keyed Tryz.underlying9
theorem mapS_zero (w : World) : (zeroValue 3).run Tryz.prog w = .ok (.int .i64 0) w := by kernel_rfl

abbrev keyS (s : ByteArray) : Lit := .string s.data.toList
theorem keyS_inj {a b : ByteArray} (h : keyS a = keyS b) : a = b := by
  simp only [keyS, Lit.string.injEq] at h
  exact WideShapes.bytes_inj h
theorem keyS_is (s : ByteArray) : WideAt.IsKeyLit (keyS s) := by first | trivial | simp [WideAt.IsKeyLit, keyS]

/-- Block m is a map of at most n entries that answers as f. -/
def MapS (w : World) (m n : Nat) (f : ByteArray → Option Int) : Prop :=
  ∃ D : DataW Unit, w.ownsMap Tryz.prog 9 (plainElem Tryz.prog 3) m (Maps.size D) D ∧ Maps.Tidy D ∧ Maps.size D ≤ n ∧
    ∀ s, Maps.has D (keyS s) = (f s).isSome ∧ D.atKey (keyS s) (.lit (.int .i64 0)) = .lit (.int .i64 ((f s).getD 0))

theorem ownsMap_tight {w : World} {m n : Nat} {D : DataW Unit} (h : w.ownsMap Tryz.prog 9 (plainElem Tryz.prog 3) m n D) : w.ownsMap Tryz.prog 9 (plainElem Tryz.prog 3) m (Maps.size D) D := by
  obtain ⟨es, clock, hb, F, hs, rfl⟩ := h
  refine ⟨es, clock, hb, F, ?_, rfl⟩
  rw [Maps.size_eq, length_sorted]
  simp

theorem MapS.made (w : World) : MapS (w.alloc (.map #[] 0)) w.heap.size 0 (fun _ => none) :=
  ⟨.map [], World.ownsMap_made w _ _ _, Maps.tidy_empty, Nat.le_refl _, fun s => ⟨rfl, rfl⟩⟩
theorem MapS.lt {w : World} {m n : Nat} {f : ByteArray → Option Int} (h : MapS w m n f) : m < w.heap.size := by
  obtain ⟨D, h1, _⟩ := h
  exact h1.lt
theorem MapS.kept {w w' : World} {m n : Nat} {f : ByteArray → Option Int} {row : Option Nat} (h : MapS w m n f) (hg : w.grownBy w' row) (hne : some m ≠ row) : MapS w' m n f := by
  obtain ⟨D, h1, h2⟩ := h
  exact ⟨D, h1.kept hg hne, h2⟩
theorem MapS.below {w w' : World} {m n : Nat} {f : ByteArray → Option Int} (h : MapS w m n f) (hb : Below w.heap.size w w') : MapS w' m n f :=
  h.kept (row := none) ⟨hb.os, hb.tape, hb.output, hb.size, fun k hk _ => hb.block k hk⟩ (by simp)
theorem MapS.mono {w : World} {m n n' : Nat} {f : ByteArray → Option Int} (h : MapS w m n f) (hn : n ≤ n') : MapS w m n' f := by
  obtain ⟨D, h1, h2, h3, h4⟩ := h
  exact ⟨D, h1, h2, Nat.le_trans h3 hn, h4⟩

theorem MapS.look {w : World} {m n : Nat} {f : ByteArray → Option Int} (h : MapS w m n f) {s : ByteArray} (hs : s.size ≤ maxLen) :
    (Instr.lookup 181 (.map (some m)) (.string s) false).run Tryz.prog w = .ok (.int .i64 ((f s).getD 0)) w := by
  obtain ⟨D, h1, _, _, h4⟩ := h
  obtain ⟨c, hrun, hat, _⟩ := h1.lookup_int mapS_law Tryz.underlying181 Tryz.underlying3 (mapS_zero w) (WideMaps.keyOf_string_mk Tryz.underlying9 hs)
  rw [(h4 s).2] at hat
  simp only [DataW.lit.injEq, Lit.int.injEq, true_and] at hat
  rw [hrun, hat]

theorem MapS.lookOk {w : World} {m n : Nat} {f : ByteArray → Option Int} (h : MapS w m n f) {s : ByteArray} (hs : s.size ≤ maxLen) :
    (Instr.lookup 181 (.map (some m)) (.string s) true).run Tryz.prog w = .ok (.tuple #[.int .i64 ((f s).getD 0), .bool (f s).isSome]) w := by
  obtain ⟨D, h1, _, _, h4⟩ := h
  obtain ⟨v, ps, hrun, hv⟩ := h1.look_ok mapS_law Tryz.underlying181 (mapS_zero w) (zd := .lit (.int .i64 0)) (zp := []) (plainElem_int Tryz.underlying3 (by decide)) (WideMaps.keyOf_string_mk Tryz.underlying9 hs)
  obtain ⟨c, rfl, hc, _⟩ := plainElem_int_inv Tryz.underlying3 hv
  have hat := congrArg Prod.fst hc
  simp only [(h4 s).2] at hat
  simp only [DataW.lit.injEq, Lit.int.injEq, true_and] at hat
  rw [hrun, (h4 s).1, hat]

/-- m[s] = v at the operation. -/
theorem wpList_storeS {ops : Array Oper} {rest : List Oper} {o : Oper} {a : Act} {Q : Exit → Act → World → Prop} {w : World} (hg : o.guard = none) (mo x v : Operand) (hop : o.op = Op.mapUpdate 181 mo x v)
    (m n : Nat) (f : ByteArray → Option Int) (hm : a.eval mo = .map (some m)) (h : MapS w m n f) (hn : n < 1152921504606846976) (s : ByteArray) (q : Int) (hx : a.eval x = .string s) (hv : a.eval v = .int .i64 q) (hs : s.size ≤ maxLen) (hq : (Lit.int .i64 q).wf = true)
    (hK : ∀ w', MapS w' m (if (f s).isSome then n else n + 1) (fun t => if t = s then some q else f t) → w.grownBy w' (some m) → wpList Tryz.prog ops Q rest (a.put o.dst undef) w') : wpList Tryz.prog ops Q (o :: rest) a w := by
  obtain ⟨D, h1, h2, h3, h4⟩ := h
  refine wpList_mapUpdate_own w hg mo x v _ hop _ _ mapS_law Tryz.underlying181 (plainElem Tryz.prog 3) m _ D hm h1 (by simp only [maxLen]; omega) _ _ (keyS s) hx hv (WideMaps.keyOf_string_mk Tryz.underlying9 hs) (.lit (.int .i64 q)) [] (plainElem_int Tryz.underlying3 hq) ?_
  intro w' ho hgr
  refine hK w' ⟨_, ownsMap_tight ho, h2.put (keyS_is s) _, ?_, fun t => ?_⟩ hgr
  · rw [Maps.size_put h2, (h4 s).1]
    split <;> simp_all
  · by_cases e : t = s
    · subst e
      simp only [if_pos rfl]
      exact ⟨Maps.has_put_same h2.isMap (keyS_is _) _, Maps.atKey_put_same h2.isMap (keyS_is _) _ _⟩
    · have hne : keyS t ≠ keyS s := fun h => e (keyS_inj h)
      simp only [if_neg e]
      rw [Maps.has_put_other hne, Maps.atKey_put_other hne]
      exact h4 t

theorem ext_out {w w1 : World} (h : ∃ x : Ext w, w1 = x.val) : Below w.heap.size w w1 := by
  obtain ⟨x, rfl⟩ := h
  exact x.property

end Go.Proofs.YtlldagdhlfpihaaGreatDoor
end

section
set_option linter.unusedVariables false
set_option linter.unusedSimpArgs false
set_option linter.unusedSectionVars false
namespace Go.Proofs.YtlldagdhlfpihaaGreatDoor
open Go.RowKit

set_option maxHeartbeats 400000 in
theorem isa_Form (n : Int) (w : World) :
    Calls Tryz.prog 52 #[.int .i64 n] w fun e w' => e = .returned (.int .i64 (S.form n)) ∧ w = w' := by
  go_enter Tryz.func52, Tryz.ntmps52
  go_wp2
  all_goals
    go_ret
    exact ⟨ret_int (by grind [S.form]), rfl⟩

set_option maxHeartbeats 400000 in
theorem isa_has (f : Int) (w : World) :
    Calls Tryz.prog 51 #[.int .i64 f] w fun e w' => e = .returned (.tuple #[.bool (S.hasD f), .bool (S.hasA f), .bool (S.hasB f), .int .i64 (S.bitsOf f)]) ∧ w = w' := by
  go_enter Tryz.func51, Tryz.ntmps51
  go_wp2
  all_goals
    refine bodyPost_ret (results_tmp4 rfl _ _ _) rfl ?_
    refine ⟨?_, rfl⟩
    simp only [S.hasD, S.hasA, S.hasB, S.bitsOf]
    simp
    grind

set_option maxHeartbeats 800000 in
theorem isa_ranges (n : Int) (w : World) :
    Calls Tryz.prog 86 #[.int .i64 n] w fun e w' => e = .returned (.tuple #[.int .i64 (S.least n), .int .i64 (S.most n)]) ∧ w = w' := by
  go_enter Tryz.func86, Tryz.ntmps86
  go_wp2_with (go_at_call 52; refine (isa_Form _ _).mono ?_; rintro e w' ⟨rfl, rfl⟩)
  all_goals
    go_ret2
    refine ⟨?_, rfl⟩
    simp
    grind [S.least, S.most]

theorem isa_Signed (n : Int) (w : World) :
    Calls Tryz.prog 89 #[.int .i64 n] w fun e w' => e = .returned (.bool (decide (S.least n < 0))) ∧ w = w' := by
  go_enter Tryz.func89, Tryz.ntmps89
  go_wp2_with (go_at_call 86; refine (isa_ranges _ _).mono ?_; rintro e w' ⟨rfl, rfl⟩)
  all_goals
    go_ret
    exact ⟨ret_bool rfl, rfl⟩

theorem isa_register (is : Bool) (n : Int) (w : World) :
    Calls Tryz.prog 87 #[.bool is, .int .i64 n] w fun e w' => e = .returned (.bool (S.reg is n)) ∧ w = w' := by
  cases is
  all_goals
    go_enter Tryz.func87, Tryz.ntmps87
    go_wp2
    all_goals
      go_ret
      exact ⟨ret_bool (by grind [S.reg]), rfl⟩

theorem asm_Turned (n : Int) (w : World) :
    Calls Tryz.prog 178 #[.int .i64 n] w fun e w' => e = .returned (.int .i64 (S.turned n)) ∧ w = w' := by
  go_enter Tryz.func178, Tryz.ntmps178
  go_wp2
  all_goals
    go_ret
    exact ⟨ret_int (by grind [S.turned]), rfl⟩


end Go.Proofs.YtlldagdhlfpihaaGreatDoor
end

section
set_option linter.unusedVariables false
set_option linter.unusedSimpArgs false
set_option linter.unusedSectionVars false
namespace Go.Proofs.YtlldagdhlfpihaaGreatDoor
open Go.RowKit

set_option maxHeartbeats 1600000 in
theorem isa_Check (op d a b imm : Int) (w : World) :
    Calls Tryz.prog 50 #[.agg #[.int .i64 op, .int .i64 d, .int .i64 a, .int .i64 b, .int .i64 imm]] w
      fun e w' => e = .returned (.int .i64 (S.chk ⟨op, d, a, b, imm⟩)) ∧ Below w.heap.size w w' := by
  go_enter Tryz.func50, Tryz.ntmps50
  go_wp2_with (first
    | (go_at_call 52; refine (isa_Form _ _).mono ?_; rintro e w' ⟨rfl, rfl⟩)
    | (go_at_call 51; refine (isa_has _ _).mono ?_; rintro e w' ⟨rfl, rfl⟩)
    | (go_at_call 86; refine (isa_ranges _ _).mono ?_; rintro e w' ⟨rfl, rfl⟩)
    | (go_at_call 87; refine (isa_register _ _ _).mono ?_; rintro e w' ⟨rfl, rfl⟩))
  all_goals
    go_ret
    exact ⟨ret_int (by grind [S.good, S.chk]), (Below.refl _ _).alloc (Nat.le_refl _) _⟩

end Go.Proofs.YtlldagdhlfpihaaGreatDoor
end

section
set_option linter.unusedVariables false
set_option linter.unusedSimpArgs false
set_option linter.unusedSectionVars false
namespace Go.Proofs.YtlldagdhlfpihaaGreatDoor
open Go.RowKit

set_option maxHeartbeats 16000000 in
theorem isa_Encode (op d a b imm : Int) (w : World) (hg : S.good ⟨op, d, a, b, imm⟩ = true) :
    Calls Tryz.prog 22 #[.agg #[.int .i64 op, .int .i64 d, .int .i64 a, .int .i64 b, .int .i64 imm]] w
      fun e w' => e = .returned (.tuple #[.int .u32 (S.enc ⟨op, d, a, b, imm⟩), .int .i64 0]) ∧ Below w.heap.size w w' := by
  have hc : S.chk ⟨op, d, a, b, imm⟩ = 0 := by simp [S.chk, hg]
  obtain ⟨o1, o2, d1, d2, a1, a2, b1, b2, hw⟩ := good_ways hg
  clear hg
  rcases hw with ⟨h, hD, hA, hB, hI, i1, i2⟩ | ⟨h, hD, hA, hB, hI, i1, i2⟩ | ⟨h, hD, hA, hB, hI, i1, i2⟩ | ⟨h, hD, hA, hB, hI, i1, i2⟩ | ⟨h, hD, hA, hB, hI, i1, i2⟩ | ⟨h, hD, hA, hB, hI, i1, i2⟩ | ⟨h, hD, hA, hB, hI, i1, i2⟩
  all_goals
    have H := Lib.hid h
    clear h
    go_enter Tryz.func22, Tryz.ntmps22
    go_wp2_with (first
      | (go_at_call 50; refine (isa_Check _ _ _ _ _ _).mono ?_; rintro e w' ⟨rfl, hb⟩; obtain ⟨hc1, hc2⟩ := bcell hb; have hz := hb.size; simp at hz)
      | (go_at_call 52; refine (isa_Form _ _).mono ?_; rintro e w' ⟨rfl, rfl⟩)
      | (go_at_call 51; refine (isa_has _ _).mono ?_; rintro e w' ⟨rfl, rfl⟩))
    refine wp_loop_rounds 4 ?_
    rw [rounds_succ]
    go_wp2
    rw [rounds_succ]
    go_wp2
    rw [rounds_succ]
    go_wp2
    rw [rounds_succ]
    go_wp2
    refine wp_forget (fun w4 => w4.cell? ⟨w.heap.size, 4, none⟩ = some (.int .i64 imm) ∧ Below w.heap.size w w4) ⟨?_, ?_⟩ ?_
    · have h4 : w'.cell? ⟨w.heap.size, 4, none⟩ = some (.int .i64 imm) := by rw [hc1 _ _ (by simp)]; go_simp
      refine (Below.cell (B := w'.heap.size) (w := w') ?_ ?_).trans h4
      · exact ((((Below.refl _ _).alloc (by simp) _).alloc (by simp) _).alloc (by simp; omega) _).alloc (by simp; omega) _
      · simp; omega
    · have h0 : Below w.heap.size w w' := ((Below.refl _ _).alloc (Nat.le_refl _) _).trans (hb.mono (by simp))
      exact (((h0.alloc (by omega) _).alloc (by simp; omega) _).alloc (by simp; omega) _).alloc (by simp; omega) _
    rintro w4 ⟨h4, hb4⟩
    go_quiet (fail)
    go_wp2
    go_ret2
    refine ⟨ret_pair ?_ rfl, below_drewN hb4 _⟩
    first
      | (with_reducible exact enc_1 o1 o2 d1 d2 a1 a2 b1 b2 i1 i2 H.out)
      | (with_reducible exact enc_2 o1 o2 d1 d2 a1 a2 i1 i2 H.out)
      | (with_reducible exact enc_3 o1 o2 d1 d2 i1 i2 H.out)
      | (with_reducible exact enc_4 o1 o2 a1 a2 b1 b2 i1 i2 H.out)
      | (with_reducible exact enc_5 o1 o2 d1 d2 i1 i2 H.out)
      | (with_reducible exact enc_6 o1 o2 d1 d2 i1 i2 H.out)
      | (with_reducible exact enc_7 o1 o2 a1 a2 i1 i2 H.out)

end Go.Proofs.YtlldagdhlfpihaaGreatDoor
end

section
set_option linter.unusedVariables false
set_option linter.unusedSimpArgs false
set_option linter.unusedSectionVars false
namespace Go.Proofs.YtlldagdhlfpihaaGreatDoor
open Go.RowKit

theorem chk_bad {x : S.Inst} (h : S.good x = false) : S.chk x = 11 := by simp [S.chk, h]
theorem wordOf_bad {x : S.Inst} (h : S.good x = false) : S.wordOf x = 0 := by simp [S.wordOf, h]
theorem chk_good {x : S.Inst} (h : S.good x = true) : S.chk x = 0 := by simp [S.chk, h]
theorem wordOf_good {x : S.Inst} (h : S.good x = true) : S.wordOf x = S.enc x := by simp [S.wordOf, h]

set_option maxHeartbeats 400000 in
theorem isa_Encode_any (op d a b imm : Int) (w : World) :
    Calls Tryz.prog 22 #[.agg #[.int .i64 op, .int .i64 d, .int .i64 a, .int .i64 b, .int .i64 imm]] w
      fun e w' => e = .returned (.tuple #[.int .u32 (S.wordOf ⟨op, d, a, b, imm⟩), .int .i64 (S.chk ⟨op, d, a, b, imm⟩)]) ∧ Below w.heap.size w w' := by
  cases hg : S.good ⟨op, d, a, b, imm⟩
  · have hc := chk_bad hg
    have hw := wordOf_bad hg
    rw [hw]
    clear hg hw
    go_enter Tryz.func22, Tryz.ntmps22
    go_wp2_with (go_at_call 50; refine (isa_Check _ _ _ _ _ _).mono ?_; rintro e w' ⟨rfl, hb⟩)
    go_ret2
    exact ⟨by simp [hc], ((Below.refl _ _).alloc (Nat.le_refl _) _).trans (hb.mono (by simp))⟩
  · rw [chk_good hg, wordOf_good hg]
    exact isa_Encode op d a b imm w hg

theorem asm_word (op d a b imm : Int) (w : World) :
    Calls Tryz.prog 177 #[.agg #[.int .i64 op, .int .i64 d, .int .i64 a, .int .i64 b, .int .i64 imm]] w
      fun e w' => e = .returned (.int .u32 (S.wordOf ⟨op, d, a, b, imm⟩)) ∧ Below w.heap.size w w' := by
  go_enter Tryz.func177, Tryz.ntmps177
  go_wp2_with (go_at_call 22; refine (isa_Encode_any _ _ _ _ _ _).mono ?_; rintro e w' ⟨rfl, hb⟩)
  go_ret
  exact ⟨rfl, ((Below.refl _ _).alloc (Nat.le_refl _) _).trans (hb.mono (by simp))⟩

end Go.Proofs.YtlldagdhlfpihaaGreatDoor
end

section
set_option linter.unusedVariables false
set_option linter.unusedSimpArgs false
set_option linter.unusedSectionVars false
namespace Go.Proofs.YtlldagdhlfpihaaGreatDoor
open Go.RowKit

set_option maxRecDepth 100000 in
set_option maxHeartbeats 400000 in
theorem asm_size (k op d a b imm : Int) (lab : ByteArray) (wd form : Int) (w : World) (h3 : k = 3 → 1 ≤ form ∧ form ≤ 3) (h4 : k = 4 → 1 ≤ form ∧ form ≤ 2) (hw0 : 0 ≤ wd) (hw1 : wd ≤ 4294967295) :
    Calls Tryz.prog 186 #[.agg #[.int .i64 k, .int .i64 op, .int .i64 d, .int .i64 a, .int .i64 b, .int .i64 imm, .string lab, .int .u32 wd], .int .i64 form] w
      fun e w' => e = .returned (.int .i64 (S.size ⟨k, ⟨op, d, a, b, imm⟩, lab, wd⟩ form)) ∧ Below w.heap.size w w' := by
  by_cases c3 : k = 3
  · obtain ⟨f1, f2⟩ := h3 c3
    clear h3 h4
    subst c3
    have hf : form = 1 ∨ form = 2 ∨ form = 3 := by omega
    clear f1 f2
    have ix : ∀ w : World, (Instr.index 216 (.agg #[.int .i64 0, .int .i64 1, .int .i64 2, .int .i64 4]) (.int .i64 1)).run Tryz.prog w = .ok (.int .i64 1) w := fun _ => by kernel_rfl
    have iy : ∀ w : World, (Instr.index 216 (.agg #[.int .i64 0, .int .i64 1, .int .i64 2, .int .i64 4]) (.int .i64 2)).run Tryz.prog w = .ok (.int .i64 2) w := fun _ => by kernel_rfl
    have iz : ∀ w : World, (Instr.index 216 (.agg #[.int .i64 0, .int .i64 1, .int .i64 2, .int .i64 4]) (.int .i64 3)).run Tryz.prog w = .ok (.int .i64 4) w := fun _ => by kernel_rfl
    rcases hf with rfl | rfl | rfl
    all_goals
      go_enter Tryz.func186, Tryz.ntmps186
      go_wp2
      go_ret
      exact ⟨ret_int (by simp [S.size]), (Below.refl _ _).alloc (Nat.le_refl _) _⟩
  · by_cases c4 : k = 4
    · obtain ⟨f1, f2⟩ := h4 c4
      clear h3 h4 c3
      subst c4
      have hf : form = 1 ∨ form = 2 := by omega
      clear f1 f2
      have ix : ∀ w : World, (Instr.index 217 (.agg #[.int .i64 0, .int .i64 1, .int .i64 3]) (.int .i64 1)).run Tryz.prog w = .ok (.int .i64 1) w := fun _ => by kernel_rfl
      have iy : ∀ w : World, (Instr.index 217 (.agg #[.int .i64 0, .int .i64 1, .int .i64 3]) (.int .i64 2)).run Tryz.prog w = .ok (.int .i64 3) w := fun _ => by kernel_rfl
      rcases hf with rfl | rfl
      all_goals
        go_enter Tryz.func186, Tryz.ntmps186
        go_wp2
        go_ret
        exact ⟨ret_int (by simp [S.size]), (Below.refl _ _).alloc (Nat.le_refl _) _⟩
    · clear h3 h4
      have d3 : (k == 3) = false := by simp [c3]
      have d4 : (k == 4) = false := by simp [c4]
      go_enter Tryz.func186, Tryz.ntmps186
      go_wp2
      all_goals
        go_ret
        exact ⟨ret_int (by simp_all [S.size]), (Below.refl _ _).alloc (Nat.le_refl _) _⟩

set_option maxHeartbeats 400000 in
theorem asm_named (k op d a b imm : Int) (lab : ByteArray) (wd : Int) (w : World) :
    Calls Tryz.prog 173 #[.agg #[.int .i64 k, .int .i64 op, .int .i64 d, .int .i64 a, .int .i64 b, .int .i64 imm, .string lab, .int .u32 wd]] w
      fun e w' => e = .returned (.bool (S.named ⟨k, ⟨op, d, a, b, imm⟩, lab, wd⟩)) ∧ Below w.heap.size w w' := by
  go_enter Tryz.func173, Tryz.ntmps173
  go_wp2
  all_goals
    go_ret
    exact ⟨ret_bool (by simp only [S.named]; grind), (Below.refl _ _).alloc (Nat.le_refl _) _⟩

set_option maxHeartbeats 1000000 in
theorem asm_check (k op d a b imm : Int) (lab : ByteArray) (wd : Int) (w : World) :
    Calls Tryz.prog 172 #[.agg #[.int .i64 k, .int .i64 op, .int .i64 d, .int .i64 a, .int .i64 b, .int .i64 imm, .string lab, .int .u32 wd]] w
      fun e w' => e = .returned (.int .i64 (S.chkItem ⟨k, ⟨op, d, a, b, imm⟩, lab, wd⟩)) ∧ Below w.heap.size w w' := by
  by_cases c3 : k = 3
  · subst c3
    go_enter Tryz.func172, Tryz.ntmps172
    go_wp2
    refine wp_region_ext (by kernel_rfl) (by kernel_rfl) ?_
    have hE := ext_cells (w.alloc (.cells #[.int .i64 3, .int .i64 op, .int .i64 d, .int .i64 a, .int .i64 b, .int .i64 imm, .string lab, .int .u32 wd] 152))
    repeat (first
      | go_big_quiet_step ((first
        | (go_at_call 178; exact ext_of_same (asm_Turned _ _))
        | (go_at_call 50; exact ext_of (isa_Check _ _ _ _ _ _)))))
    refine wpQuiet_nil ?_
    rintro _ ⟨⟨w1, hb1⟩, rfl⟩
    go_wp2
    go_ret
    refine ⟨ret_int ?_, ((Below.refl _ _).alloc (Nat.le_refl _) _).trans (hb1.mono (by simp))⟩
    simp only [chk_turned]
    simp [S.chkItem]
  · have d3 : (k == 3) = false := by simp [c3]
    go_enter Tryz.func172, Tryz.ntmps172
    go_wp2_with (go_at_call 50; refine (isa_Check _ _ _ _ _ _).mono ?_; rintro e w' ⟨rfl, hb⟩)
    all_goals
      go_ret
      first
        | exact ⟨ret_int (by first | (simp only [chk_jump]; grind [S.chkItem, S.chk]) | grind [S.chkItem, S.chk]), ((Below.refl _ _).alloc (Nat.le_refl _) _).trans (Below.mono ‹_› (by simp))⟩
        | exact ⟨ret_int (by grind [S.chkItem, S.chk]), (Below.refl _ _).alloc (Nat.le_refl _) _⟩

end Go.Proofs.YtlldagdhlfpihaaGreatDoor
end
