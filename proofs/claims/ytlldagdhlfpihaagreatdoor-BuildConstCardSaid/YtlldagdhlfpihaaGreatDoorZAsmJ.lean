/- LinkB, LinkC, LinkD, LinkE, AsmC, AsmJ: joined.  The assembler's work in memory; walks of its methods address and grows. -/
import Derived.Test.YtlldagdhlfpihaaGreatDoorZBFrm
import Derived.Test.YtlldagdhlfpihaaGreatDoorZAsmA
import Derived.Test.YtlldagdhlfpihaaGreatDoorZBMem
import Derived.Test.YtlldagdhlfpihaaGreatDoorZExt
import Derived.Test.YtlldagdhlfpihaaGreatDoorZBMach
import Derived.Deep.DeepCutAuto
section
set_option linter.unusedVariables false
set_option linter.unusedSimpArgs false
set_option linter.unusedSectionVars false
namespace Go.Proofs.YtlldagdhlfpihaaGreatDoor
open Go.RowKit

/-- An object in memory. -/
structure ObjAt (w : World) (B b o : Nat) (x : S.Obj) : Prop where
  c0 : w.cell? ⟨b, o, none⟩ = some (.string x.name)
  c1 : ∃ A c, w.cell? ⟨b, o + 1, none⟩ = some (.slice A x.items.length c) ∧ Items w B A x.items
  nm : x.name.size ≤ maxLen
  lab : ∀ y ∈ x.items, y.label.size ≤ maxLen
def Objs (w : World) (B : Nat) (A : Option Addr) (os : List S.Obj) : Prop :=
  0 < os.length → ∃ b off, A = some ⟨b, off, none⟩ ∧ b < B ∧ ∀ i x, os[i]? = some x → ObjAt w B b (off + i * 2) x
theorem Objs.below {w w' : World} {B : Nat} {A : Option Addr} {os : List S.Obj} (h : Objs w B A os) (hb : Below B w w') : Objs w' B A os := fun hp => by
  obtain ⟨b, off, e, hbB, hc⟩ := h hp
  refine ⟨b, off, e, hbB, fun i x hx => ?_⟩
  obtain ⟨h0, ⟨A', c', h1, h2⟩, h3, h4⟩ := hc i x hx
  exact ⟨(hb.cell (p := ⟨b, _, none⟩) hbB).trans h0, ⟨A', c', (hb.cell (p := ⟨b, _, none⟩) hbB).trans h1, h2.below hb⟩, h3, h4⟩
theorem Objs.more {w : World} {B B' : Nat} {A : Option Addr} {os : List S.Obj} (h : Objs w B A os) (hB : B ≤ B') : Objs w B' A os := fun hp => by
  obtain ⟨b, off, e, hbB, hc⟩ := h hp
  refine ⟨b, off, e, by omega, fun i x hx => ?_⟩
  obtain ⟨h0, ⟨A', c', h1, h2⟩, h3, h4⟩ := hc i x hx
  exact ⟨h0, ⟨A', c', h1, h2.more hB⟩, h3, h4⟩
theorem Objs.at_ {w : World} {B : Nat} {A : Option Addr} {os : List S.Obj} (h : Objs w B A os) {k : Nat} (hk : k < os.length) :
    ∃ b off x, A = some ⟨b, off, none⟩ ∧ b < B ∧ os[k]? = some x ∧ ObjAt w B b (off + k * 2) x := by
  obtain ⟨b, off, e, hbB, hc⟩ := h (by omega)
  exact ⟨b, off, os[k], e, hbB, List.getElem?_eq_getElem hk, hc k _ (List.getElem?_eq_getElem hk)⟩

/-- How often a name was seen among the first k objects (no two of which have one). -/
def seen (os : List S.Obj) (k : Nat) (s : ByteArray) : Option Int := if ∃ j : Nat, j < k ∧ ∃ x : S.Obj, os[j]? = some x ∧ x.name = s then some 1 else none
def anyBad (os : List S.Obj) (k : Nat) : Int := if ∃ j : Nat, j < k ∧ ∃ x : S.Obj, os[j]? = some x ∧ S.badN x = true then 2 else 0
def NoDup (os : List S.Obj) (k : Nat) : Prop := ∀ i j : Nat, ∀ a b : S.Obj, i < k → j < i → os[i]? = some a → os[j]? = some b → a.name ≠ b.name

theorem seen_zero (os : List S.Obj) : seen os 0 = fun _ => none := by
  funext s
  unfold seen
  rw [if_neg]
  rintro ⟨j, hj, _⟩
  omega
theorem seen_succ {os : List S.Obj} {k : Nat} {x : S.Obj} (hx : os[k]? = some x) : seen os (k + 1) = fun t => if t = x.name then some 1 else seen os k t := by
  funext t
  unfold seen
  by_cases c : t = x.name
  · rw [if_pos c, if_pos ⟨k, by omega, x, hx, c.symm⟩]
  · rw [if_neg c]
    congr 1
    rw [eq_iff_iff]
    constructor
    · rintro ⟨j, hj, y, hy, e⟩
      by_cases h : j = k
      · subst h
        rw [hx] at hy
        cases hy
        exact absurd e.symm c
      · exact ⟨j, by omega, y, hy, e⟩
    · rintro ⟨j, hj, y, hy, e⟩
      exact ⟨j, by omega, y, hy, e⟩
theorem seen_none {os : List S.Obj} {k : Nat} {x : S.Obj} (hx : os[k]? = some x) (hs : seen os k x.name = none) (hd : NoDup os k) : NoDup os (k + 1) := by
  intro i j a b hi hj ha hb e
  by_cases h : i = k
  · subst h
    rw [hx] at ha
    cases ha
    unfold seen at hs
    rw [if_pos ⟨j, hj, b, hb, e.symm⟩] at hs
    cases hs
  · exact hd i j a b (by omega) hj ha hb e
theorem seen_some {os : List S.Obj} {k : Nat} {x : S.Obj} (hx : os[k]? = some x) {v : Int} (hs : seen os k x.name = some v) : v = 1 ∧ S.DupN os := by
  unfold seen at hs
  split at hs
  · rename_i h
    obtain ⟨j, hj, y, hy, e⟩ := h
    exact ⟨by cases hs; rfl, k, j, x, y, hj, hx, hy, e.symm⟩
  · cases hs
theorem anyBad_zero (os : List S.Obj) : anyBad os 0 = 0 := by
  unfold anyBad
  rw [if_neg]
  rintro ⟨j, hj, _⟩
  omega
theorem anyBad_succ {os : List S.Obj} {k : Nat} {x : S.Obj} (hx : os[k]? = some x) : anyBad os (k + 1) = if S.badN x = true then 2 else anyBad os k := by
  unfold anyBad
  by_cases c : S.badN x = true
  · rw [if_pos c, if_pos ⟨k, by omega, x, hx, c⟩]
  · rw [if_neg c]
    congr 1
    rw [eq_iff_iff]
    constructor
    · rintro ⟨j, hj, y, hy, e⟩
      by_cases h : j = k
      · subst h
        rw [hx] at hy
        cases hy
        exact absurd e c
      · exact ⟨j, by omega, y, hy, e⟩
    · rintro ⟨j, hj, y, hy, e⟩
      exact ⟨j, by omega, y, hy, e⟩
theorem names_end {os : List S.Obj} (hd : NoDup os os.length) : S.NamesRes os (anyBad os os.length) := by
  have hd' : ¬ S.DupN os := by
    rintro ⟨i, j, a, b, hj, ha, hb, e⟩
    exact hd i j a b (List.getElem?_eq_some_iff.1 ha).1 hj ha hb e
  unfold anyBad
  split
  · rename_i h
    obtain ⟨j, _, x, hx, hb⟩ := h
    exact .inr (.inl ⟨hd', ⟨x, List.mem_of_getElem? hx, hb⟩, rfl⟩)
  · rename_i h
    refine .inr (.inr ⟨hd', fun o ho => ?_, rfl⟩)
    obtain ⟨j, hj, rfl⟩ := List.getElem_of_mem ho
    rw [Bool.eq_false_iff]
    intro hb
    exact h ⟨j, hj, _, List.getElem?_eq_getElem hj, hb⟩

theorem wf64' {n : Int} (h : -9223372036854775808 ≤ n ∧ n ≤ 9223372036854775807) : (Lit.int .i64 n).wf = true := by
  simp [Lit.wf, IntKind.min, IntKind.max, IntKind.signed, IntKind.bits]
  omega
theorem cell_grown' {w w' : World} {m b : Nat} (hg : w.grownBy w' (some m)) (hlt : b < w.heap.size) (hne : b ≠ m) (j : Nat) : w'.cell? ⟨b, j, none⟩ = w.cell? ⟨b, j, none⟩ := by
  simp only [World.cell?, hg.block b hlt (by simpa using hne)]

theorem one_allocL (w : World) (cs : Array Value) (t : TypeId) : (w.alloc (.cells cs t)).heap[w.heap.size]? = some (.cells cs t (0, 0)) ∧ Below w.heap.size w (w.alloc (.cells cs t)) ∧ (w.alloc (.cells cs t)).heap.size = w.heap.size + 1 :=
  ⟨heap_alloc_new _ _, (Below.refl _ _).alloc (Nat.le_refl _) _, by simp⟩
theorem wpList_storeL {ops : Array Oper} {rest : List Oper} {o : Oper} {a : Act} {Q : Exit → Act → World → Prop} {w : World} (hg : o.guard = none) (hd : o.dst = none) (mo x v : Operand) (hop : o.op = Op.mapUpdate 181 mo x v)
    (m n : Nat) (f : ByteArray → Option Int) (hm : a.eval mo = .map (some m)) (h : MapS w m n f) (hn : n < 1152921504606846976) (s : ByteArray) (q : Int) (hx : a.eval x = .string s) (hv : a.eval v = .int .i64 q) (hs : s.size ≤ maxLen) (hq : (Lit.int .i64 q).wf = true)
    (hK : ∀ w', MapS w' m (if (f s).isSome then n else n + 1) (fun t => if t = s then some q else f t) → w.grownBy w' (some m) → wpList Tryz.prog ops Q rest a w') : wpList Tryz.prog ops Q (o :: rest) a w := by
  refine wpList_storeS hg mo x v hop m n f hm h hn s q hx hv hs hq ?_
  intro w' h1 h2
  rw [hd]
  exact hK w' h1 h2
def NamesPost (os : List S.Obj) (w : World) (e : Ending) (w' : World) : Prop := ∃ r, e = .returned (.int .i64 r) ∧ S.NamesRes os r ∧ Below w.heap.size w w'

set_option maxRecDepth 100000 in
set_option maxHeartbeats 2000000 in
theorem link_checked (A : Option Addr) (c : Nat) (os : List S.Obj) (w : World) (hi : Objs w w.heap.size A os) (hl : os.length ≤ 1048576) :
    Calls Tryz.prog 77 #[.slice A os.length c] w (NamesPost os w) := by
  have hmm := @run_makeMap Tryz.prog
  go_enter Tryz.func77, Tryz.ntmps77
  go_wp2_with fail
  go_loopw [4, 10] (fun ev i wr => ∃ k : Nat, k ≤ os.length ∧ i = .int .i64 k ∧ ev = .int .i64 (anyBad os k) ∧ MapS wr w.heap.size k (seen os k) ∧ NoDup os k ∧ Below w.heap.size w wr) (fun _ i _ => os.length - (intOf i).toNat)
  case atStart => exact ⟨0, by omega, rfl, by rw [anyBad_zero], by rw [seen_zero]; exact MapS.made w, fun i j a b h => by omega, (Below.refl _ _).alloc (Nat.le_refl _) _⟩
  case round =>
    obtain ⟨k, hk, rfl, rfl, hM, hd, hbk⟩ := hrel
    have hzk := hM.lt
    by_cases hlt : k < os.length
    · obtain ⟨b, off, x, rfl, hb, hx, hc0, ⟨Ai, ci, hc1, hI⟩, hn, _⟩ := (hi.below hbk).at_ hlt
      have Hx := Lib.hid hx
      have Hd := Lib.hid hd
      clear hx hd
      obtain ⟨nm, its⟩ := x
      simp only at hc0 hc1 hn
      have hbr : b < wr.heap.size := by omega
      obtain ⟨x1, x2, x3⟩ := one_allocL wr #[.string nm, .slice Ai its.length ci] 98
      go_upto_region 6 with fail
      generalize wr.alloc (.cells #[.string nm, .slice Ai its.length ci] 98) = wX at *
      have hX0 : wX.cell? ⟨wr.heap.size, 0, none⟩ = some (.string nm) := by simp [World.cell?, x1]
      have hMX := hM.below x2
      have hbX := hbk.trans (x2.mono (by omega))
      have hzX : wr.heap.size < wX.heap.size := by omega
      have hlk := hMX.look hn
      clear x1 x2 x3 hM hc0 hc1
      cases hs : seen os k nm with
      | some v =>
        obtain ⟨rfl, hdup⟩ := seen_some Hx.out hs
        have e1 : (seen os k nm).getD 0 = 1 := by rw [hs]; rfl
        rw [e1] at hlk
        have Hs := Lib.hid hs
        have Hdup := Lib.hid hdup
        clear hs hdup e1
        go_wp2_with (at_mapUpdate
                     refine wpList_storeL rfl rfl (.tmp 14) (.tmp 16) (.tmp 18) rfl w.heap.size k _ rfl hMX (by omega) nm 2 rfl rfl hn (wf64' (by omega)) ?_
                     intro w2 hM2 hg2
                     have hlk2 := hM2.look hn
                     have hc2 : w2.cell? ⟨wr.heap.size, 0, none⟩ = some (.string nm) := (cell_grown' hg2 hzX (by omega) 0).trans hX0)
        go_ret
        exact ⟨14, rfl, .inl ⟨Hdup.out, rfl⟩, below_of_grown hbX hg2 (by omega) (fun _ h => by cases h; exact Nat.le_refl _)⟩
      | none =>
        have e1 : (seen os k nm).getD 0 = 0 := by rw [hs]; rfl
        rw [e1] at hlk
        have hnd := seen_none Hx.out hs Hd.out
        have Hnd := Lib.hid hnd
        have Hs := Lib.hid hs
        have Hbs := Lib.hid (anyBad_succ Hx.out)
        have Hss := Lib.hid (seen_succ Hx.out)
        clear hs hnd e1
        have hway : nm.toList = [] ∨ (nm.toList ≠ [] ∧ S.ownB nm = true) ∨ (nm.toList ≠ [] ∧ S.ownB nm = false) := by
          by_cases c1 : nm.toList = []
          · exact .inl c1
          · cases c2 : S.ownB nm
            · exact .inr (.inr ⟨c1, rfl⟩)
            · exact .inr (.inl ⟨c1, rfl⟩)
        have Hway := Lib.hid hway
        clear hway
        rcases Hway.out with h0 | ⟨h0, h1⟩ | ⟨h0, h1⟩
        · skip
          go_wp2_with (at_mapUpdate
                       refine wpList_storeL rfl rfl (.tmp 14) (.tmp 16) (.tmp 18) rfl w.heap.size k _ rfl hMX (by omega) nm 1 rfl rfl hn (wf64' (by omega)) ?_
                       intro w2 hM2 hg2
                       have hlk2 := hM2.look hn
                       have hc2 : w2.cell? ⟨wr.heap.size, 0, none⟩ = some (.string nm) := (cell_grown' hg2 hzX (by omega) 0).trans hX0)
          have hM3 : MapS w2 w.heap.size (k + 1) (seen os (k + 1)) := by
            rw [Hss.out]
            have h := hM2
            rw [Hs.out] at h
            exact h
          have hb2 : Below w.heap.size w w2 := below_of_grown hbX hg2 (by omega) (fun _ h => by cases h; exact Nat.le_refl _)
          have hav : anyBad os (k + 1) = 2 := by
            rw [Hbs.out, if_pos (by simp [S.badN, ← ByteArray.toList_eq, h0])]
          exact ⟨⟨k + 1, by omega, by go_num, by rw [hav], hM3, Hnd.out, hb2⟩, by simp [intOf]; omega⟩
        · have hE : (nm.toList == []) = false := by simpa using h0
          have hE2 : nm.toList.isEmpty = false := by simpa using h0
          go_wp2_with (at_mapUpdate
                       refine wpList_storeL rfl rfl (.tmp 14) (.tmp 16) (.tmp 18) rfl w.heap.size k _ rfl hMX (by omega) nm 1 rfl rfl hn (wf64' (by omega)) ?_
                       intro w2 hM2 hg2
                       have hlk2 := hM2.look hn
                       have hc2 : w2.cell? ⟨wr.heap.size, 0, none⟩ = some (.string nm) := (cell_grown' hg2 hzX (by omega) 0).trans hX0)
          refine (strings_HasPrefix _ _ hn).mono ?_
          rintro e w' ⟨rfl, rfl⟩
          go_wp2_with fail
          have hM3 : MapS w2 w.heap.size (k + 1) (seen os (k + 1)) := by
            rw [Hss.out]
            have h := hM2
            rw [Hs.out] at h
            exact h
          have hb2 : Below w.heap.size w w2 := below_of_grown hbX hg2 (by omega) (fun _ h => by cases h; exact Nat.le_refl _)
          have hav : anyBad os (k + 1) = 2 := by
            rw [Hbs.out, if_pos (by simp [S.badN, ← ByteArray.toList_eq, h0, h1])]
          exact ⟨⟨k + 1, by omega, by go_num, by rw [hav], hM3, Hnd.out, hb2⟩, by simp [intOf]; omega⟩
        · have hE : (nm.toList == []) = false := by simpa using h0
          have hE2 : nm.toList.isEmpty = false := by simpa using h0
          go_wp2_with (at_mapUpdate
                       refine wpList_storeL rfl rfl (.tmp 14) (.tmp 16) (.tmp 18) rfl w.heap.size k _ rfl hMX (by omega) nm 1 rfl rfl hn (wf64' (by omega)) ?_
                       intro w2 hM2 hg2
                       have hlk2 := hM2.look hn
                       have hc2 : w2.cell? ⟨wr.heap.size, 0, none⟩ = some (.string nm) := (cell_grown' hg2 hzX (by omega) 0).trans hX0)
          refine (strings_HasPrefix _ _ hn).mono ?_
          rintro e w' ⟨rfl, rfl⟩
          go_wp2_with fail
          have hM3 : MapS w2 w.heap.size (k + 1) (seen os (k + 1)) := by
            rw [Hss.out]
            have h := hM2
            rw [Hs.out] at h
            exact h
          have hb2 : Below w.heap.size w w2 := below_of_grown hbX hg2 (by omega) (fun _ h => by cases h; exact Nat.le_refl _)
          have hav : anyBad os (k + 1) = anyBad os k := by
            rw [Hbs.out, if_neg (by simp [S.badN, ← ByteArray.toList_eq, h0, h1])]
          exact ⟨⟨k + 1, by omega, by go_num, by rw [hav], hM3, Hnd.out, hb2⟩, by simp [intOf]; omega⟩
    · have hke : k = os.length := by omega
      subst hke
      have hres := names_end hd
      have Hres := Lib.hid hres
      clear hres hd
      go_wp2_with fail
      go_ret
      exact ⟨_, rfl, Hres.out, hbk⟩

end Go.Proofs.YtlldagdhlfpihaaGreatDoor
end

section
set_option linter.unusedVariables false
set_option linter.unusedSimpArgs false
set_option linter.unusedSectionVars false
namespace Go.Proofs.YtlldagdhlfpihaaGreatDoor
open Go.RowKit

def ClonePost (xs : List S.Item) (w : World) (e : Ending) (w' : World) : Prop :=
  ∃ v, e = .returned v ∧ w'.ownsRow w.heap.size 152 8 v xs.length (xs.flatMap itemCells) ∧ Below w.heap.size w w'

set_option maxHeartbeats 1000000 in
set_option maxRecDepth 100000 in
theorem clone_items (A : Option Addr) (c : Nat) (xs : List S.Item) (w : World) (hi : Items w w.heap.size A xs) (hl : xs.length ≤ 1048576) :
    Calls Tryz.prog 122 #[.slice A xs.length c] w (ClonePost xs w) := by
  have hn := fun (w : World) (A : Option Addr) (n c n1 c1 : Nat) => Lib.run_eql_slice_nil (P := Tryz.prog) w 96 152 A n c n1 c1 Tryz.underlying96
  cases A with
  | none =>
    go_enter Tryz.func122, Tryz.ntmps122
    have hx0 : xs = [] := by
      cases xs with
      | nil => rfl
      | cons x r =>
        obtain ⟨b, off, e, _⟩ := hi (by simp)
        cases e
    subst hx0
    go_wp2_with fail
    go_ret
    exact ⟨_, rfl, World.ownsRow_nil _ _ _ _, Below.refl _ _⟩
  | some a =>
    have hr := hi.reads.below ((Below.refl w.heap.size w).alloc (Nat.le_refl _) (.cells #[] 152))
    go_enter Tryz.func122, Tryz.ntmps122
    go_wp2_with (at_builtin
                 refine wpList_appendsN rfl (.tmp 5) (.tmp 6) _ rfl w.heap.size 152 item_info Tryz.underlying96 rfl (by decide) _ 0 [] rfl (World.ownsRow_made w #[] 0 (Nat.le_refl _) (by simp [maxLen]) (by simp)) w.heap.size (some a) xs.length c (xs.flatMap itemCells) rfl (flat8_len xs) (fun h => by cases h) hr (cells_one xs) (by simp only [maxLen]; omega) (by omega) (by simp) ?_
                 intro v' w1 ho1 hg1 hb1 hat1)
    go_ret
    simp only [Nat.zero_add, List.nil_append] at ho1
    exact ⟨_, rfl, ho1, ((Below.refl _ _).alloc (Nat.le_refl _) _).trans hb1⟩

end Go.Proofs.YtlldagdhlfpihaaGreatDoor
end

section
set_option linter.unusedVariables false
set_option linter.unusedSimpArgs false
set_option linter.unusedSectionVars false
namespace Go.Proofs.YtlldagdhlfpihaaGreatDoor
open Go.RowKit

/-- The first q items have their labels told wholly. -/
def mixed (nm : ByteArray) (its : List S.Item) (q : Nat) : List S.Item := (its.take q).map (S.ownItem nm) ++ its.drop q
theorem mixed_zero (nm : ByteArray) (its : List S.Item) : mixed nm its 0 = its := by simp [mixed]
theorem mixed_all (nm : ByteArray) (its : List S.Item) : mixed nm its its.length = its.map (S.ownItem nm) := by simp [mixed]
theorem mixed_at (nm : ByteArray) (its : List S.Item) (q : Nat) (h : q < its.length) : (mixed nm its q)[q]? = some its[q] := by
  unfold mixed
  rw [List.getElem?_append_right (by simp; omega)]
  simp [Nat.min_eq_left (Nat.le_of_lt h)]
theorem mixed_succ (nm : ByteArray) (its : List S.Item) (q : Nat) (h : q < its.length) : (mixed nm its q).set q (S.ownItem nm its[q]) = mixed nm its (q + 1) := by
  apply List.ext_getElem?
  intro i
  unfold mixed
  by_cases e : i = q
  · subst e
    rw [List.getElem?_set_self (by simp; omega)]
    rw [List.getElem?_append_left (by simp; omega)]
    simp [List.getElem?_take, h]
  · rw [List.getElem?_set_ne (Ne.symm e)]
    by_cases l : i < q
    · rw [List.getElem?_append_left (by simp; omega), List.getElem?_append_left (by simp; omega)]
      simp [List.getElem?_take, l, show i < q + 1 by omega]
    · rw [List.getElem?_append_right (by simp; omega), List.getElem?_append_right (by simp; omega)]
      simp only [List.length_map, List.length_take, List.getElem?_drop]
      congr 1
      omega
theorem flat_set (L : List S.Item) (q : Nat) (x : S.Item) (s : ByteArray) (h : L[q]? = some x) :
    (L.flatMap itemCells).set (q * 8 + 6) (.string s) = (L.set q ⟨x.kind, x.inst, s, x.word⟩).flatMap itemCells := by
  induction L generalizing q with
  | nil => simp at h
  | cons y r ih =>
    cases q with
    | zero =>
      simp only [List.getElem?_cons_zero, Option.some.injEq] at h
      subst h
      simp [itemCells]
    | succ q =>
      have h1 := ih q (by simpa using h)
      have e1 : (q + 1) * 8 + 6 = (itemCells y).length + (q * 8 + 6) := by simp [itemCells]; omega
      rw [List.flatMap_cons, e1, List.set_append_right _ _ (by omega), Nat.add_sub_cancel_left, h1, List.set_cons_succ, List.flatMap_cons]
theorem mixed_store (nm : ByteArray) (its : List S.Item) (q : Nat) (h : q < its.length) :
    ((mixed nm its q).flatMap itemCells).set (q * 8 + 6) (.string (S.owned nm its[q].label)) = (mixed nm its (q + 1)).flatMap itemCells := by
  rw [flat_set _ q _ _ (mixed_at nm its q h), ← mixed_succ nm its q h]
  rfl

end Go.Proofs.YtlldagdhlfpihaaGreatDoor
end

section
set_option linter.unusedVariables false
set_option linter.unusedSimpArgs false
set_option linter.unusedSectionVars false
namespace Go.Proofs.YtlldagdhlfpihaaGreatDoor
open Go.RowKit

def JoinPost (os : List S.Obj) (w : World) (e : Ending) (w' : World) : Prop :=
  ∃ v, e = .returned v ∧ w'.ownsRow w.heap.size 152 8 v (S.joined os).length ((S.joined os).flatMap itemCells) ∧ Below w.heap.size w w'
theorem joined_take {os : List S.Obj} {k : Nat} {x : S.Obj} (hx : os[k]? = some x) : S.joined (os.take (k + 1)) = S.joined (os.take k) ++ S.itemsOf x := by
  have hk := (List.getElem?_eq_some_iff.1 hx).1
  have he : os[k] = x := by
    have := List.getElem?_eq_getElem hk
    rw [hx] at this
    exact (Option.some.inj this).symm
  rw [List.take_succ_eq_append_getElem hk, he]
  simp [S.joined]
theorem joined_le {os : List S.Obj} (k : Nat) : (S.joined (os.take k)).length ≤ (S.joined os).length := by
  have h : S.joined os = S.joined (os.take k) ++ S.joined (os.drop k) := by
    unfold S.joined
    rw [← List.flatMap_append, List.take_append_drop]
  rw [h, List.length_append]
  omega

set_option maxRecDepth 100000 in
set_option maxHeartbeats 4000000 in
theorem link_joined (A : Option Addr) (c : Nat) (os : List S.Obj) (w : World) (hi : Objs w w.heap.size A os) (hl : os.length ≤ 1048576) (ht : (S.joined os).length ≤ 1048576)
    (hsz : ∀ (k : Nat) (o : S.Obj), os[k]? = some o → ∀ x ∈ o.items, o.name.size + x.label.size ≤ 9223372036854775807) :
    Calls Tryz.prog 79 #[.slice A os.length c] w (JoinPost os w) := by
  have Hsz := Lib.hid hsz
  clear hsz
  go_enter Tryz.func79, Tryz.ntmps79
  go_wp2_with fail
  go_loopw [3, 10] (fun v i wr => ∃ k : Nat, k ≤ os.length ∧ i = .int .i64 k ∧ wr.ownsRow w.heap.size 152 8 v (S.joined (os.take k)).length ((S.joined (os.take k)).flatMap itemCells) ∧ Below w.heap.size w wr) (fun _ i _ => os.length - (intOf i).toNat)
  case atStart => exact ⟨0, by omega, rfl, by simp [S.joined]; exact World.ownsRow_nil _ _ _ _, Below.refl _ _⟩
  case round =>
    obtain ⟨k, hk, rfl, ho, hbk⟩ := hrel
    by_cases hlt : k < os.length
    · obtain ⟨b, off, x, rfl, hb, hx, hc0, ⟨Ai, ci, hc1, hI⟩, hn, hlab⟩ := (hi.below hbk).at_ hlt
      have hzk := hbk.size
      have hbr : b < wr.heap.size := by omega
      have hjk := Lib.hid (joined_take hx)
      have hle := joined_le (os := os) (k + 1)
      rw [hjk.out, List.length_append] at hle
      have hil : x.items.length ≤ 1048576 := by
        have : (S.itemsOf x).length = x.items.length := by simp [S.itemsOf]
        omega
      have Hx := Lib.hid hx
      have Hlab := Lib.hid hlab
      clear hx hlab
      obtain ⟨nm, its⟩ := x
      simp only at hc0 hc1 hn hil hI
      obtain ⟨x1, x2, x3⟩ := one_allocL wr #[.string nm, .slice Ai its.length ci] 98
      go_upto_region 5 with fail
      generalize wr.alloc (.cells #[.string nm, .slice Ai its.length ci] 98) = wX at *
      have hX0 : wX.cell? ⟨wr.heap.size, 0, none⟩ = some (.string nm) := by simp [World.cell?, x1]
      have hX1 : wX.cell? ⟨wr.heap.size, 1, none⟩ = some (.slice Ai its.length ci) := by simp [World.cell?, x1]
      have hzX : wr.heap.size < wX.heap.size := by omega
      have hoX := ownsRow_below ho x2
      have hbX := hbk.trans (x2.mono (by omega))
      have hIX := (hI.below (x2.mono (by omega))).more (B' := wX.heap.size) (by omega)
      clear x1 x2 x3 ho hc0 hc1 hI
      go_wp2_with fail
      refine (clone_items _ _ _ _ hIX hil).mono ?_
      rintro e w1 ⟨v1, rfl, ho1, hb1⟩
      have hz1 := hb1.size
      have hX0' : w1.cell? ⟨wr.heap.size, 0, none⟩ = some (.string nm) := (hb1.cell (p := ⟨wr.heap.size, 0, none⟩) hzX).trans hX0
      obtain ⟨A1, c1, rfl⟩ := ownsRow_form ho1
      clear hX0 hX1
      go_wp2_with fail
      obtain ⟨wo, hwo⟩ : ∃ wo : World, wo = wr := ⟨_, rfl⟩
      subst hwo
      go_loopw [19] (fun i wi => ∃ q : Nat, q ≤ its.length ∧ i = .int .i64 q ∧ wi.ownsRow wX.heap.size 152 8 (.slice A1 its.length c1) its.length ((mixed nm its q).flatMap itemCells) ∧ Below wX.heap.size wX wi) (fun i _ => its.length - (intOf i).toNat)
      case atStart => exact ⟨0, by omega, rfl, by rw [mixed_zero]; exact ho1, hb1⟩
      case round =>
        obtain ⟨q, hq, rfl, hoq, hbq⟩ := hrel
        by_cases hql : q < its.length
        · obtain ⟨g, rfl, hg1, hg2, hg3, hg4, hg5⟩ := ownsRow_at hoq (by omega)
          have hzi := hbq.size
          have hcl : wr.cell? ⟨g, q * 8 + 6, none⟩ = some (.string its[q].label) := by
            rw [hg4 _ (by omega), flat_item _ q _ (mixed_at nm its q hql) 6 (by omega)]
            rfl
          have hcn : wr.cell? ⟨wo.heap.size, 0, none⟩ = some (.string nm) := by
            have h1 := hbq.cell (p := ⟨wo.heap.size, 0, none⟩) hzX
            have h2 := hb1.cell (p := ⟨wo.heap.size, 0, none⟩) hzX
            exact h1.trans (h2.symm.trans hX0')
          have hmem : its[q] ∈ its := List.getElem_mem hql
          have hls := Hlab.out _ hmem
          have hns := Hsz.out _ _ Hx.out _ hmem
          simp only at hns
          have hfz := hg5 (q * 8 + 6)
          clear hg4 hg5
          have hE := ext_cells wr
          have g1 : wo.heap.size < wr.heap.size := by omega
          go_upto_region 9 with fail
          refine wp_region_ext_plan 12 1 [0, 1, 2, 3, 4, 5, 6, 7, 8, 9, 10, 11] (by kernel_rfl) (by kernel_rfl) (fun _ _ _ _ _ h => h) ?_
          repeat (first
            | (refine plan_cons rfl ?_; go_big_quiet_step ((go_at_call 123; exact ext_of_same (link_owned _ _ _ hls hns)))))
          refine wpQuiet_nil ?_
          rintro w2 ⟨⟨w3, hb2⟩, rfl⟩
          simp only [List.drop_succ_cons, List.drop_zero]
          have hcl2 : w2.cell? ⟨g, q * 8 + 6, none⟩ = some (.string its[q].label) := (hb2.cell (p := ⟨g, q * 8 + 6, none⟩) hg2).trans hcl
          have hfz2 : w2.frozen? ⟨g, q * 8 + 6, none⟩ = false := (hb2.frozen (p := ⟨g, q * 8 + 6, none⟩) hg2).trans hfz
          have hoq2 := ownsRow_below hoq hb2
          have hst := hoq2.stored (q * 8 + 6) (.string (S.owned nm its[q].label))
          rw [mixed_store nm its q hql] at hst
          have Hst := Lib.hid hst
          have hbq2 := hbq.trans (hb2.mono hzi)
          clear hE hst
          go_wp2_with fail
          go_roundw
          case rel => exact ⟨q + 1, by omega, by go_num, Hst.out.1, hbq2.setCell (p := ⟨g, q * 8 + 6, none⟩) hg1 _⟩
          case measure => simp [intOf]; omega
        · have hqe : q = its.length := by omega
          subst hqe
          rw [mixed_all] at hoq
          have hzi := hbq.size
          have hoX2 := ownsRow_below hoX hbq
          have hbw := hbX.trans (hbq.mono (by omega))
          have hww : ∀ x ∈ its.map (S.ownItem nm), 0 ≤ x.word ∧ x.word ≤ 4294967295 := by
            intro x hx
            obtain ⟨y, hy, rfl⟩ := List.mem_map.1 hx
            exact hIX.words y hy
          have hrd := (Items.of_own hoq hww).reads
          have hA1 : A1 = none → its.length = 0 := fun h => ownsRow_none hoq h
          have hfl : ((its.map (S.ownItem nm)).flatMap itemCells).length = its.length * 8 := by rw [flat8_len, List.length_map]
          have hlj : (S.joined (os.take k)).length + its.length ≤ 1048576 := by
            have : (S.itemsOf ⟨nm, its⟩).length = its.length := by simp [S.itemsOf]
            omega
          have hone := cells_one (its.map (S.ownItem nm))
          have Hoq := Lib.hid hoq
          clear hoq hoX hww
          go_wp2_with (at_builtin
                       refine wpList_appendsN rfl (.tmp 35) (.tmp 36) _ rfl w.heap.size 152 item_info Tryz.underlying96 rfl (by decide) _ _ _ rfl hoX2 wr.heap.size A1 its.length c1 _ rfl hfl hA1 hrd hone (by simp only [maxLen]; omega) (by omega) (by omega) ?_
                       intro v' w3 ho3 hg3 hb3 hat3)
          have hfin : w3.ownsRow w.heap.size 152 8 v' (S.joined (os.take (k + 1))).length ((S.joined (os.take (k + 1))).flatMap itemCells) := by
            rw [hjk.out, List.length_append, List.flatMap_append]
            have e : (S.itemsOf ⟨nm, its⟩).length = its.length := by simp [S.itemsOf]
            rw [e]
            exact ho3
          exact ⟨⟨k + 1, by omega, by go_num, hfin, hbw.trans hb3⟩, by simp [intOf]; omega⟩
    · have hke : k = os.length := by omega
      subst hke
      rw [List.take_length] at ho
      go_wp2_with fail
      go_ret
      exact ⟨_, rfl, ho, hbk⟩

end Go.Proofs.YtlldagdhlfpihaaGreatDoor
end

section
set_option linter.unusedVariables false
set_option linter.unusedSimpArgs false
set_option linter.unusedSectionVars false
namespace Go.Proofs.YtlldagdhlfpihaaGreatDoor
open Go.RowKit

def addrs (xs : List S.Item) (F : List Int) (base : Int) (n : Nat) : List Int := (List.range n).map (S.addr xs F base)
theorem addrs_getD (xs : List S.Item) (F : List Int) (base : Int) (n k : Nat) (h : k < n) : (addrs xs F base n).getD k 0 = S.addr xs F base k := by simp [addrs, h]
theorem addrs_length (xs : List S.Item) (F : List Int) (base : Int) (n : Nat) : (addrs xs F base n).length = n := by simp [addrs]

end Go.Proofs.YtlldagdhlfpihaaGreatDoor
end

section
set_option linter.unusedVariables false
set_option linter.unusedSimpArgs false
set_option linter.unusedSectionVars false
namespace Go.Proofs.YtlldagdhlfpihaaGreatDoor
open Go.RowKit

/-- Where a label stands, as the map tells it. -/
def labF (xs : List S.Item) (s : ByteArray) : Option Int := if S.stands xs s < 0 then none else some (S.stands xs s)

/-- The assembler's work: a block of five cells; forms and addresses in rows of its own, labels in a map of its own. -/
structure Work (w : World) (B g gF gA m n : Nat) (A : Option Addr) (c : Nat) (xs : List S.Item) (base : Int) (F T : List Int) (f : ByteArray → Option Int) : Prop where
  blk : w.heap[g]? = some (.cells #[.slice A xs.length c, .int .i64 base, .slice (some ⟨gF, 0, none⟩) xs.length xs.length, .slice (some ⟨gA, 0, none⟩) (xs.length + 1) (xs.length + 1), .map (some m)] 187 (0, 0))
  forms : w.ownsRow B 3 1 (.slice (some ⟨gF, 0, none⟩) xs.length xs.length) xs.length (F.map (Value.int .i64))
  ats : w.ownsRow B 3 1 (.slice (some ⟨gA, 0, none⟩) (xs.length + 1) (xs.length + 1)) (xs.length + 1) (T.map (Value.int .i64))
  labels : MapS w m n f
  hg : B ≤ g
  hF : B ≤ gF
  hA : B ≤ gA
  hm : B ≤ m
  ne1 : gF ≠ gA

theorem blk_lt {w : World} {g : Nat} {o : Obj} (h : w.heap[g]? = some o) : g < w.heap.size := (Array.getElem?_eq_some_iff.1 h).1
theorem blk_cell {w : World} {g : Nat} {cs : Array Value} {t : TypeId} (h : w.heap[g]? = some (.cells cs t (0, 0))) (j : Nat) : w.cell? ⟨g, j, none⟩ = cs[j]? := by simp [World.cell?, h]

theorem Work.below {w w' : World} {B g gF gA m n : Nat} {A : Option Addr} {c : Nat} {xs : List S.Item} {base : Int} {F T : List Int} {f : ByteArray → Option Int} (h : Work w B g gF gA m n A c xs base F T f)
    (hb : Below w.heap.size w w') : Work w' B g gF gA m n A c xs base F T f :=
  ⟨(hb.block g (blk_lt h.blk)).trans h.blk, ownsRow_below h.forms hb, ownsRow_below h.ats hb, h.labels.below hb, h.hg, h.hF, h.hA, h.hm, h.ne1⟩

/-- The cells that a reader of the work meets. -/
theorem Work.cells {w : World} {B g gF gA m n : Nat} {A : Option Addr} {c : Nat} {xs : List S.Item} {base : Int} {F T : List Int} {f : ByteArray → Option Int} (h : Work w B g gF gA m n A c xs base F T f) :
    w.cell? ⟨g, 0, none⟩ = some (.slice A xs.length c) ∧ w.cell? ⟨g, 1, none⟩ = some (.int .i64 base) ∧ w.cell? ⟨g, 2, none⟩ = some (.slice (some ⟨gF, 0, none⟩) xs.length xs.length) ∧
    w.cell? ⟨g, 3, none⟩ = some (.slice (some ⟨gA, 0, none⟩) (xs.length + 1) (xs.length + 1)) ∧ w.cell? ⟨g, 4, none⟩ = some (.map (some m)) := by
  refine ⟨?_, ?_, ?_, ?_, ?_⟩ <;> rw [blk_cell h.blk] <;> rfl
theorem Work.form {w : World} {B g gF gA m n : Nat} {A : Option Addr} {c : Nat} {xs : List S.Item} {base : Int} {F T : List Int} {f : ByteArray → Option Int} (h : Work w B g gF gA m n A c xs base F T f) {k : Nat} (hk : k < xs.length) :
    w.cell? ⟨gF, k, none⟩ = some (.int .i64 (F.getD k 0)) ∧ w.frozen? ⟨gF, k, none⟩ = false := by
  have hl : F.length = xs.length := by have := h.forms.1; simpa using this
  obtain ⟨g', he, _, _, _, hc, hf⟩ := ownsRow_at h.forms (by omega)
  cases he
  refine ⟨?_, hf k⟩
  rw [hc k (by omega), List.getElem?_map]
  have : k < F.length := by omega
  simp [this]
theorem Work.at_ {w : World} {B g gF gA m n : Nat} {A : Option Addr} {c : Nat} {xs : List S.Item} {base : Int} {F T : List Int} {f : ByteArray → Option Int} (h : Work w B g gF gA m n A c xs base F T f) {k : Nat} (hk : k ≤ xs.length) :
    w.cell? ⟨gA, k, none⟩ = some (.int .i64 (T.getD k 0)) ∧ w.frozen? ⟨gA, k, none⟩ = false := by
  have hl : T.length = xs.length + 1 := by have := h.ats.1; simpa using this
  obtain ⟨g', he, _, _, _, hc, hf⟩ := ownsRow_at h.ats (by omega)
  cases he
  refine ⟨?_, hf k⟩
  rw [hc k (by omega), List.getElem?_map]
  have : k < T.length := by omega
  simp [this]
theorem Work.lts {w : World} {B g gF gA m n : Nat} {A : Option Addr} {c : Nat} {xs : List S.Item} {base : Int} {F T : List Int} {f : ByteArray → Option Int} (h : Work w B g gF gA m n A c xs base F T f) :
    g < w.heap.size ∧ gF < w.heap.size ∧ gA < w.heap.size ∧ m < w.heap.size :=
  ⟨blk_lt h.blk, (h.forms.lt gF rfl).2, (h.ats.lt gA rfl).2, h.labels.lt⟩

set_option maxRecDepth 100000 in
set_option maxHeartbeats 1000000 in
theorem asm_address (w : World) {B g gF gA m n : Nat} {A : Option Addr} {c : Nat} {xs : List S.Item} {base : Int} {F T : List Int} {f : ByteArray → Option Int} (h : Work w B g gF gA m n A c xs base F T f)
    (s : ByteArray) (hs : s.size ≤ maxLen) (j : Nat) (hf : f s = some (j : Int)) (hj : j ≤ xs.length) (hl : xs.length ≤ 1048576) (t : Int) (ht : T.getD j 0 = t) :
    Calls Tryz.prog 176 #[.pointer (some ⟨g, 0, none⟩), .string s] w fun e w' => e = .returned (.int .i64 t) ∧ Below w.heap.size w w' := by
  obtain ⟨h0, h1, h2, h3, h4⟩ := h.cells
  obtain ⟨l1, l2, l3, l4⟩ := h.lts
  have hat := (h.at_ hj).1
  rw [ht] at hat
  clear ht
  have hlook : ∀ x : Ext w, (Instr.lookup 181 (.map (some m)) (.string s) false).run Tryz.prog x.val = .ok (.int .i64 j) x.val := fun x => by
    have := (h.labels.below x.property).look hs
    rw [hf] at this
    exact this
  clear h1 h2 hf
  go_enter Tryz.func176, Tryz.ntmps176
  go_wp2_with fail
  refine wp_region_ext (by kernel_rfl) (by kernel_rfl) ?_
  have hE := ext_cells w
  repeat (first | go_big_quiet_step (fail))
  refine wpQuiet_nil ?_
  rintro _ ⟨⟨w1, hb1⟩, rfl⟩
  go_wp2_with fail
  go_ret
  exact ⟨rfl, hb1⟩

end Go.Proofs.YtlldagdhlfpihaaGreatDoor
end
