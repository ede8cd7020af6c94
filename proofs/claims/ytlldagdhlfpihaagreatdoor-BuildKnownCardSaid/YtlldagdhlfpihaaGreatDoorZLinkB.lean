/- Objects in memory; walk of link.checked. -/
import Derived.Test.YtlldagdhlfpihaaGreatDoorZBFrm
import Derived.Test.YtlldagdhlfpihaaGreatDoorZAsmA
import Derived.Test.YtlldagdhlfpihaaGreatDoorZBMem
import Derived.Deep.DeepCutAuto
set_option linter.unusedVariables false
set_option linter.unusedSimpArgs false
set_option linter.unusedSectionVars false
namespace Go.Proofs.YtlldagdhlfpihaaGreatDoor
open Go.RowKit

/-- An object in memory. -/
structure ObjAt (w : World) (B b o : Nat) (x : S.Obj) : Prop where
  c0 : w.cell? ⟨b, o, none⟩ = some (.string x.name)
  c1 : ∃ A c, w.cell? ⟨b, o + 1, none⟩ = some (.slice A x.items.length c) ∧ Items w B A x.items
  nm : x.name.size ≤ maxLen
  lab : ∀ y ∈ x.items, y.label.size ≤ maxLen
def Objs (w : World) (B : Nat) (A : Option Addr) (os : List S.Obj) : Prop :=
  0 < os.length → ∃ b off, A = some ⟨b, off, none⟩ ∧ b < B ∧ ∀ i x, os[i]? = some x → ObjAt w B b (off + i * 2) x
theorem Objs.below {w w' : World} {B : Nat} {A : Option Addr} {os : List S.Obj} (h : Objs w B A os) (hb : Below B w w') : Objs w' B A os := fun hp => by
  obtain ⟨b, off, e, hbB, hc⟩ := h hp
  refine ⟨b, off, e, hbB, fun i x hx => ?_⟩
  obtain ⟨h0, ⟨A', c', h1, h2⟩, h3, h4⟩ := hc i x hx
  exact ⟨(hb.cell (p := ⟨b, _, none⟩) hbB).trans h0, ⟨A', c', (hb.cell (p := ⟨b, _, none⟩) hbB).trans h1, h2.below hb⟩, h3, h4⟩
theorem Objs.more {w : World} {B B' : Nat} {A : Option Addr} {os : List S.Obj} (h : Objs w B A os) (hB : B ≤ B') : Objs w B' A os := fun hp => by
  obtain ⟨b, off, e, hbB, hc⟩ := h hp
  refine ⟨b, off, e, by omega, fun i x hx => ?_⟩
  obtain ⟨h0, ⟨A', c', h1, h2⟩, h3, h4⟩ := hc i x hx
  exact ⟨h0, ⟨A', c', h1, h2.more hB⟩, h3, h4⟩
theorem Objs.at_ {w : World} {B : Nat} {A : Option Addr} {os : List S.Obj} (h : Objs w B A os) {k : Nat} (hk : k < os.length) :
    ∃ b off x, A = some ⟨b, off, none⟩ ∧ b < B ∧ os[k]? = some x ∧ ObjAt w B b (off + k * 2) x := by
  obtain ⟨b, off, e, hbB, hc⟩ := h (by omega)
  exact ⟨b, off, os[k], e, hbB, List.getElem?_eq_getElem hk, hc k _ (List.getElem?_eq_getElem hk)⟩

/-- How often a name was seen among the first k objects (no two of which have one). -/
def seen (os : List S.Obj) (k : Nat) (s : ByteArray) : Option Int := if ∃ j : Nat, j < k ∧ ∃ x : S.Obj, os[j]? = some x ∧ x.name = s then some 1 else none
def anyBad (os : List S.Obj) (k : Nat) : Int := if ∃ j : Nat, j < k ∧ ∃ x : S.Obj, os[j]? = some x ∧ S.badN x = true then 2 else 0
def NoDup (os : List S.Obj) (k : Nat) : Prop := ∀ i j : Nat, ∀ a b : S.Obj, i < k → j < i → os[i]? = some a → os[j]? = some b → a.name ≠ b.name

theorem seen_zero (os : List S.Obj) : seen os 0 = fun _ => none := by
  funext s
  unfold seen
  rw [if_neg]
  rintro ⟨j, hj, _⟩
  omega
theorem seen_succ {os : List S.Obj} {k : Nat} {x : S.Obj} (hx : os[k]? = some x) : seen os (k + 1) = fun t => if t = x.name then some 1 else seen os k t := by
  funext t
  unfold seen
  by_cases c : t = x.name
  · rw [if_pos c, if_pos ⟨k, by omega, x, hx, c.symm⟩]
  · rw [if_neg c]
    congr 1
    rw [eq_iff_iff]
    constructor
    · rintro ⟨j, hj, y, hy, e⟩
      by_cases h : j = k
      · subst h
        rw [hx] at hy
        cases hy
        exact absurd e.symm c
      · exact ⟨j, by omega, y, hy, e⟩
    · rintro ⟨j, hj, y, hy, e⟩
      exact ⟨j, by omega, y, hy, e⟩
theorem seen_none {os : List S.Obj} {k : Nat} {x : S.Obj} (hx : os[k]? = some x) (hs : seen os k x.name = none) (hd : NoDup os k) : NoDup os (k + 1) := by
  intro i j a b hi hj ha hb e
  by_cases h : i = k
  · subst h
    rw [hx] at ha
    cases ha
    unfold seen at hs
    rw [if_pos ⟨j, hj, b, hb, e.symm⟩] at hs
    cases hs
  · exact hd i j a b (by omega) hj ha hb e
theorem seen_some {os : List S.Obj} {k : Nat} {x : S.Obj} (hx : os[k]? = some x) {v : Int} (hs : seen os k x.name = some v) : v = 1 ∧ S.DupN os := by
  unfold seen at hs
  split at hs
  · rename_i h
    obtain ⟨j, hj, y, hy, e⟩ := h
    exact ⟨by cases hs; rfl, k, j, x, y, hj, hx, hy, e.symm⟩
  · cases hs
theorem anyBad_zero (os : List S.Obj) : anyBad os 0 = 0 := by
  unfold anyBad
  rw [if_neg]
  rintro ⟨j, hj, _⟩
  omega
theorem anyBad_succ {os : List S.Obj} {k : Nat} {x : S.Obj} (hx : os[k]? = some x) : anyBad os (k + 1) = if S.badN x = true then 2 else anyBad os k := by
  unfold anyBad
  by_cases c : S.badN x = true
  · rw [if_pos c, if_pos ⟨k, by omega, x, hx, c⟩]
  · rw [if_neg c]
    congr 1
    rw [eq_iff_iff]
    constructor
    · rintro ⟨j, hj, y, hy, e⟩
      by_cases h : j = k
      · subst h
        rw [hx] at hy
        cases hy
        exact absurd e c
      · exact ⟨j, by omega, y, hy, e⟩
    · rintro ⟨j, hj, y, hy, e⟩
      exact ⟨j, by omega, y, hy, e⟩
theorem names_end {os : List S.Obj} (hd : NoDup os os.length) : S.NamesRes os (anyBad os os.length) := by
  have hd' : ¬ S.DupN os := by
    rintro ⟨i, j, a, b, hj, ha, hb, e⟩
    exact hd i j a b (List.getElem?_eq_some_iff.1 ha).1 hj ha hb e
  unfold anyBad
  split
  · rename_i h
    obtain ⟨j, _, x, hx, hb⟩ := h
    exact .inr (.inl ⟨hd', ⟨x, List.mem_of_getElem? hx, hb⟩, rfl⟩)
  · rename_i h
    refine .inr (.inr ⟨hd', fun o ho => ?_, rfl⟩)
    obtain ⟨j, hj, rfl⟩ := List.getElem_of_mem ho
    rw [Bool.eq_false_iff]
    intro hb
    exact h ⟨j, hj, _, List.getElem?_eq_getElem hj, hb⟩

theorem wf64' {n : Int} (h : -9223372036854775808 ≤ n ∧ n ≤ 9223372036854775807) : (Lit.int .i64 n).wf = true := by
  simp [Lit.wf, IntKind.min, IntKind.max, IntKind.signed, IntKind.bits]
  omega
theorem cell_grown' {w w' : World} {m b : Nat} (hg : w.grownBy w' (some m)) (hlt : b < w.heap.size) (hne : b ≠ m) (j : Nat) : w'.cell? ⟨b, j, none⟩ = w.cell? ⟨b, j, none⟩ := by
  simp only [World.cell?, hg.block b hlt (by simpa using hne)]

theorem one_allocL (w : World) (cs : Array Value) (t : TypeId) : (w.alloc (.cells cs t)).heap[w.heap.size]? = some (.cells cs t (0, 0)) ∧ Below w.heap.size w (w.alloc (.cells cs t)) ∧ (w.alloc (.cells cs t)).heap.size = w.heap.size + 1 :=
  ⟨heap_alloc_new _ _, (Below.refl _ _).alloc (Nat.le_refl _) _, by simp⟩
theorem wpList_storeL {ops : Array Oper} {rest : List Oper} {o : Oper} {a : Act} {Q : Exit → Act → World → Prop} {w : World} (hg : o.guard = none) (hd : o.dst = none) (mo x v : Operand) (hop : o.op = Op.mapUpdate 181 mo x v)
    (m n : Nat) (f : ByteArray → Option Int) (hm : a.eval mo = .map (some m)) (h : MapS w m n f) (hn : n < 1152921504606846976) (s : ByteArray) (q : Int) (hx : a.eval x = .string s) (hv : a.eval v = .int .i64 q) (hs : s.size ≤ maxLen) (hq : (Lit.int .i64 q).wf = true)
    (hK : ∀ w', MapS w' m (if (f s).isSome then n else n + 1) (fun t => if t = s then some q else f t) → w.grownBy w' (some m) → wpList Tryz.prog ops Q rest a w') : wpList Tryz.prog ops Q (o :: rest) a w := by
  refine wpList_storeS hg mo x v hop m n f hm h hn s q hx hv hs hq ?_
  intro w' h1 h2
  rw [hd]
  exact hK w' h1 h2
def NamesPost (os : List S.Obj) (w : World) (e : Ending) (w' : World) : Prop := ∃ r, e = .returned (.int .i64 r) ∧ S.NamesRes os r ∧ Below w.heap.size w w'

set_option maxRecDepth 100000 in
set_option maxHeartbeats 2000000 in
theorem link_checked (A : Option Addr) (c : Nat) (os : List S.Obj) (w : World) (hi : Objs w w.heap.size A os) (hl : os.length ≤ 1048576) :
    Calls Tryz.prog 77 #[.slice A os.length c] w (NamesPost os w) := by
  have hmm := @run_makeMap Tryz.prog
  go_enter Tryz.func77, Tryz.ntmps77
  go_wp2_with fail
  go_loopw [4, 10] (fun ev i wr => ∃ k : Nat, k ≤ os.length ∧ i = .int .i64 k ∧ ev = .int .i64 (anyBad os k) ∧ MapS wr w.heap.size k (seen os k) ∧ NoDup os k ∧ Below w.heap.size w wr) (fun _ i _ => os.length - (intOf i).toNat)
  case atStart => exact ⟨0, by omega, rfl, by rw [anyBad_zero], by rw [seen_zero]; exact MapS.made w, fun i j a b h => by omega, (Below.refl _ _).alloc (Nat.le_refl _) _⟩
  case round =>
    obtain ⟨k, hk, rfl, rfl, hM, hd, hbk⟩ := hrel
    have hzk := hM.lt
    by_cases hlt : k < os.length
    · obtain ⟨b, off, x, rfl, hb, hx, hc0, ⟨Ai, ci, hc1, hI⟩, hn, _⟩ := (hi.below hbk).at_ hlt
      have Hx := Lib.hid hx
      have Hd := Lib.hid hd
      clear hx hd
      obtain ⟨nm, its⟩ := x
      simp only at hc0 hc1 hn
      have hbr : b < wr.heap.size := by omega
      obtain ⟨x1, x2, x3⟩ := one_allocL wr #[.string nm, .slice Ai its.length ci] 98
      go_upto_region 6 with fail
      generalize wr.alloc (.cells #[.string nm, .slice Ai its.length ci] 98) = wX at *
      have hX0 : wX.cell? ⟨wr.heap.size, 0, none⟩ = some (.string nm) := by simp [World.cell?, x1]
      have hMX := hM.below x2
      have hbX := hbk.trans (x2.mono (by omega))
      have hzX : wr.heap.size < wX.heap.size := by omega
      have hlk := hMX.look hn
      clear x1 x2 x3 hM hc0 hc1
      cases hs : seen os k nm with
      | some v =>
        obtain ⟨rfl, hdup⟩ := seen_some Hx.out hs
        have e1 : (seen os k nm).getD 0 = 1 := by rw [hs]; rfl
        rw [e1] at hlk
        have Hs := Lib.hid hs
        have Hdup := Lib.hid hdup
        clear hs hdup e1
        go_wp2_with (at_mapUpdate
                     refine wpList_storeL rfl rfl (.tmp 14) (.tmp 16) (.tmp 18) rfl w.heap.size k _ rfl hMX (by omega) nm 2 rfl rfl hn (wf64' (by omega)) ?_
                     intro w2 hM2 hg2
                     have hlk2 := hM2.look hn
                     have hc2 : w2.cell? ⟨wr.heap.size, 0, none⟩ = some (.string nm) := (cell_grown' hg2 hzX (by omega) 0).trans hX0)
        go_ret
        exact ⟨14, rfl, .inl ⟨Hdup.out, rfl⟩, below_of_grown hbX hg2 (by omega) (fun _ h => by cases h; exact Nat.le_refl _)⟩
      | none =>
        have e1 : (seen os k nm).getD 0 = 0 := by rw [hs]; rfl
        rw [e1] at hlk
        have hnd := seen_none Hx.out hs Hd.out
        have Hnd := Lib.hid hnd
        have Hs := Lib.hid hs
        have Hbs := Lib.hid (anyBad_succ Hx.out)
        have Hss := Lib.hid (seen_succ Hx.out)
        clear hs hnd e1
        have hway : nm.toList = [] ∨ (nm.toList ≠ [] ∧ S.ownB nm = true) ∨ (nm.toList ≠ [] ∧ S.ownB nm = false) := by
          by_cases c1 : nm.toList = []
          · exact .inl c1
          · cases c2 : S.ownB nm
            · exact .inr (.inr ⟨c1, rfl⟩)
            · exact .inr (.inl ⟨c1, rfl⟩)
        have Hway := Lib.hid hway
        clear hway
        rcases Hway.out with h0 | ⟨h0, h1⟩ | ⟨h0, h1⟩
        · skip
          go_wp2_with (at_mapUpdate
                       refine wpList_storeL rfl rfl (.tmp 14) (.tmp 16) (.tmp 18) rfl w.heap.size k _ rfl hMX (by omega) nm 1 rfl rfl hn (wf64' (by omega)) ?_
                       intro w2 hM2 hg2
                       have hlk2 := hM2.look hn
                       have hc2 : w2.cell? ⟨wr.heap.size, 0, none⟩ = some (.string nm) := (cell_grown' hg2 hzX (by omega) 0).trans hX0)
          have hM3 : MapS w2 w.heap.size (k + 1) (seen os (k + 1)) := by
            rw [Hss.out]
            have h := hM2
            rw [Hs.out] at h
            exact h
          have hb2 : Below w.heap.size w w2 := below_of_grown hbX hg2 (by omega) (fun _ h => by cases h; exact Nat.le_refl _)
          have hav : anyBad os (k + 1) = 2 := by
            rw [Hbs.out, if_pos (by simp [S.badN, ← ByteArray.toList_eq, h0])]
          exact ⟨⟨k + 1, by omega, by go_num, by rw [hav], hM3, Hnd.out, hb2⟩, by simp [intOf]; omega⟩
        · have hE : (nm.toList == []) = false := by simpa using h0
          have hE2 : nm.toList.isEmpty = false := by simpa using h0
          go_wp2_with (at_mapUpdate
                       refine wpList_storeL rfl rfl (.tmp 14) (.tmp 16) (.tmp 18) rfl w.heap.size k _ rfl hMX (by omega) nm 1 rfl rfl hn (wf64' (by omega)) ?_
                       intro w2 hM2 hg2
                       have hlk2 := hM2.look hn
                       have hc2 : w2.cell? ⟨wr.heap.size, 0, none⟩ = some (.string nm) := (cell_grown' hg2 hzX (by omega) 0).trans hX0)
          refine (strings_HasPrefix _ _ hn).mono ?_
          rintro e w' ⟨rfl, rfl⟩
          go_wp2_with fail
          have hM3 : MapS w2 w.heap.size (k + 1) (seen os (k + 1)) := by
            rw [Hss.out]
            have h := hM2
            rw [Hs.out] at h
            exact h
          have hb2 : Below w.heap.size w w2 := below_of_grown hbX hg2 (by omega) (fun _ h => by cases h; exact Nat.le_refl _)
          have hav : anyBad os (k + 1) = 2 := by
            rw [Hbs.out, if_pos (by simp [S.badN, ← ByteArray.toList_eq, h0, h1])]
          exact ⟨⟨k + 1, by omega, by go_num, by rw [hav], hM3, Hnd.out, hb2⟩, by simp [intOf]; omega⟩
        · have hE : (nm.toList == []) = false := by simpa using h0
          have hE2 : nm.toList.isEmpty = false := by simpa using h0
          go_wp2_with (at_mapUpdate
                       refine wpList_storeL rfl rfl (.tmp 14) (.tmp 16) (.tmp 18) rfl w.heap.size k _ rfl hMX (by omega) nm 1 rfl rfl hn (wf64' (by omega)) ?_
                       intro w2 hM2 hg2
                       have hlk2 := hM2.look hn
                       have hc2 : w2.cell? ⟨wr.heap.size, 0, none⟩ = some (.string nm) := (cell_grown' hg2 hzX (by omega) 0).trans hX0)
          refine (strings_HasPrefix _ _ hn).mono ?_
          rintro e w' ⟨rfl, rfl⟩
          go_wp2_with fail
          have hM3 : MapS w2 w.heap.size (k + 1) (seen os (k + 1)) := by
            rw [Hss.out]
            have h := hM2
            rw [Hs.out] at h
            exact h
          have hb2 : Below w.heap.size w w2 := below_of_grown hbX hg2 (by omega) (fun _ h => by cases h; exact Nat.le_refl _)
          have hav : anyBad os (k + 1) = anyBad os k := by
            rw [Hbs.out, if_neg (by simp [S.badN, ← ByteArray.toList_eq, h0, h1])]
          exact ⟨⟨k + 1, by omega, by go_num, by rw [hav], hM3, Hnd.out, hb2⟩, by simp [intOf]; omega⟩
    · have hke : k = os.length := by omega
      subst hke
      have hres := names_end hd
      have Hres := Lib.hid hres
      clear hres hd
      go_wp2_with fail
      go_ret
      exact ⟨_, rfl, Hres.out, hbk⟩

end Go.Proofs.YtlldagdhlfpihaaGreatDoor
