/- Walks of pennantref04: Words, Places; link.Find, link.Size. -/
import Derived.Test.YtbgdomnalimjnaaLinkF
set_option linter.unusedVariables false
set_option linter.unusedSimpArgs false
set_option linter.unusedSectionVars false
namespace Go.Proofs.Ytbgdomnalimjnaa
open Go.RowKit

theorem reads_at {w : World} {B : Nat} {A : Option Addr} {xs : List Value} (h : Reads w B A xs) {k : Nat} {v : Value} (hk : xs[k]? = some v) :
    ∃ b off, A = some ⟨b, off, none⟩ ∧ b < B ∧ w.cell? ⟨b, off + k, none⟩ = some v := by
  obtain ⟨b, off, e, hb, hc⟩ := h (by have := (List.getElem?_eq_some_iff.1 hk).1; omega)
  exact ⟨b, off, e, hb, hc k v hk⟩

set_option maxRecDepth 100000 in
set_option maxHeartbeats 1000000 in
theorem ref4_Words (A A' : Option Addr) (c c' B B' : Nat) (L : List Int) (w : World) (hr : Reads w B A (L.map (Value.int .u32))) (hr' : Reads w B' A' (L.map (Value.int .u32))) (hl : L.length ≤ 4611686018427387904) :
    Calls Try.prog 28 #[.slice A L.length c, .slice A' L.length c'] w fun e w' => e = .returned (.bool true) ∧ Below w.heap.size w w' := by
  have hdd : ((L.length : Int) != L.length) = false := by simp
  go_enter Try.func28, Try.ntmps28
  go_wp2_with fail
  go_loopw [5] (fun i wr => ∃ (k n : Nat), k ≤ L.length ∧ i = .int .i64 k ∧ wr = w.drewN n) (fun i _ => L.length - (intOf i).toNat)
  case atStart => exact ⟨0, 0, by omega, rfl, rfl⟩
  case round =>
    obtain ⟨k, n, hk, rfl, rfl⟩ := hrel
    by_cases hlt : k < L.length
    · have hLk : (L.map (Value.int .u32))[k]? = some (.int .u32 (L.getD k 0)) := by simp [hlt]
      obtain ⟨b, off, rfl, hb, hc⟩ := reads_at hr hLk
      obtain ⟨b', off', rfl, hb', hc'⟩ := reads_at hr' hLk
      clear hLk
      generalize L.getD k 0 = v at *
      go_wp2_with fail
      go_quiet (fail)
      go_wp2_with fail
      go_roundw
      case rel => exact ⟨k + 1, _, by omega, by go_num, rfl⟩
      case measure => simp [intOf]; omega
    · go_wp2_with fail
      go_ret
      exact ⟨rfl, below_drewN (Below.refl _ _) _⟩

/-- A slice value reads as a list of places, below block B. -/
def ReadsP (w : World) (B : Nat) (A : Option Addr) (L : List (ByteArray × Int)) : Prop :=
  0 < L.length → ∃ b off, A = some ⟨b, off, none⟩ ∧ b < B ∧ ∀ i p, L[i]? = some p → w.cell? ⟨b, off + i * 2, none⟩ = some (.string p.1) ∧ w.cell? ⟨b, off + i * 2 + 1, none⟩ = some (.int .i64 p.2)
theorem ReadsP.below {w w' : World} {B : Nat} {A : Option Addr} {L : List (ByteArray × Int)} (h : ReadsP w B A L) (hb : Below B w w') : ReadsP w' B A L := fun hp => by
  obtain ⟨b, off, e, hbB, hc⟩ := h hp
  exact ⟨b, off, e, hbB, fun i p hx => ⟨(hb.cell (p := ⟨b, off + i * 2, none⟩) hbB).trans (hc i p hx).1, (hb.cell (p := ⟨b, off + i * 2 + 1, none⟩) hbB).trans (hc i p hx).2⟩⟩
theorem flat_two (L : List (ByteArray × Int)) (i : Nat) (p : ByteArray × Int) (h : L[i]? = some p) : (L.flatMap placeCells)[i * 2]? = some (.string p.1) ∧ (L.flatMap placeCells)[i * 2 + 1]? = some (.int .i64 p.2) := by
  induction L generalizing i with
  | nil => simp at h
  | cons q L ih =>
    cases i with
    | zero =>
      simp only [List.getElem?_cons_zero, Option.some.injEq] at h
      subst h
      simp [placeCells]
    | succ i =>
      have h1 := ih i (by simpa using h)
      have e1 : (i + 1) * 2 = i * 2 + 1 + 1 := by omega
      rw [List.flatMap_cons, e1]
      simpa [placeCells] using h1
theorem flat_len (L : List (ByteArray × Int)) : (L.flatMap placeCells).length = L.length * 2 := by
  induction L with
  | nil => rfl
  | cons q L ih => rw [List.flatMap_cons, List.length_append, ih]; simp [placeCells]; omega
theorem ReadsP.of_own {w : World} {base : Nat} {e : TypeId} {A : Option Addr} {m c n : Nat} {L : List (ByteArray × Int)} (h : w.ownsRow base e 2 (.slice A m c) n (L.flatMap placeCells)) : ReadsP w w.heap.size A L := fun hp => by
  have hl : (L.flatMap placeCells).length = n * 2 := h.1
  rw [flat_len] at hl
  obtain ⟨g, rfl, hg1, hg2, hg3, hg4, _⟩ := ownsRow_at h (by omega)
  refine ⟨g, 0, rfl, hg2, fun i p hx => ?_⟩
  have hi := (List.getElem?_eq_some_iff.1 hx).1
  obtain ⟨f1, f2⟩ := flat_two L i p hx
  refine ⟨?_, ?_⟩
  · rw [Nat.zero_add, hg4 _ (by omega), f1]
  · rw [Nat.zero_add, hg4 _ (by omega), f2]
theorem ReadsP.at_ {w : World} {B : Nat} {A : Option Addr} {L : List (ByteArray × Int)} (h : ReadsP w B A L) {k : Nat} (hk : k < L.length) :
    ∃ b off s n, A = some ⟨b, off, none⟩ ∧ b < B ∧ L[k]? = some (s, n) ∧ w.cell? ⟨b, off + k * 2, none⟩ = some (.string s) ∧ w.cell? ⟨b, off + k * 2 + 1, none⟩ = some (.int .i64 n) := by
  obtain ⟨b, off, e, hb, hc⟩ := h (by omega)
  obtain ⟨h1, h2⟩ := hc k L[k] (List.getElem?_eq_getElem hk)
  exact ⟨b, off, _, _, e, hb, List.getElem?_eq_getElem hk, h1, h2⟩

set_option maxRecDepth 100000 in
set_option maxHeartbeats 1000000 in
theorem ref4_Places (A A' : Option Addr) (c c' B B' : Nat) (L : List (ByteArray × Int)) (w : World) (hr : ReadsP w B A L) (hr' : ReadsP w B' A' L) (hl : L.length ≤ 4611686018427387904) :
    Calls Try.prog 29 #[.slice A L.length c, .slice A' L.length c'] w fun e w' => e = .returned (.bool true) ∧ Below w.heap.size w w' := by
  have hdd : ((L.length : Int) != L.length) = false := by simp
  go_enter Try.func29, Try.ntmps29
  go_wp2_with fail
  go_loopw [5] (fun i wr => ∃ (k n : Nat), k ≤ L.length ∧ i = .int .i64 k ∧ wr = w.drewN n) (fun i _ => L.length - (intOf i).toNat)
  case atStart => exact ⟨0, 0, by omega, rfl, rfl⟩
  case round =>
    obtain ⟨k, n, hk, rfl, rfl⟩ := hrel
    by_cases hlt : k < L.length
    · obtain ⟨b, off, s, v, rfl, hb, hx, hc0, hc1⟩ := hr.at_ hlt
      obtain ⟨b', off', s', v', rfl, hb', hx', hd0, hd1⟩ := hr'.at_ hlt
      rw [hx] at hx'
      cases hx'
      clear hx
      go_wp2_with fail
      go_quiet (fail)
      go_wp2_with fail
      go_roundw
      case rel => exact ⟨k + 1, _, by omega, by go_num, rfl⟩
      case measure => simp [intOf]; omega
    · go_wp2_with fail
      go_ret
      exact ⟨rfl, below_drewN (Below.refl _ _) _⟩


theorem find_drop {L : List (ByteArray × Int)} {k : Nat} {n s : ByteArray} {v : Int} (h : L[k]? = some (n, v)) : S.findP (L.drop k) s = if n = s then some v else S.findP (L.drop (k + 1)) s := by
  have hk := (List.getElem?_eq_some_iff.1 h).1
  have he : L[k] = (n, v) := (List.getElem?_eq_some_iff.1 h).2
  rw [List.drop_eq_getElem_cons hk, he, S.findP]

def FindPost (L : List (ByteArray × Int)) (s : ByteArray) (w : World) (e : Ending) (w' : World) : Prop :=
  e = .returned (.tuple #[.int .i64 ((S.findP L s).getD 0), .bool (S.findP L s).isSome]) ∧ Below w.heap.size w w'

set_option maxHeartbeats 1000000 in
theorem link_Find (vw : Value) (Aw Ap : Option Addr) (nw cw cp : Nat) (L : List (ByteArray × Int)) (s : ByteArray) (w : World) (hP : ReadsP w w.heap.size Ap L) (hl : L.length ≤ 1048576) :
    Calls Try.prog 30 #[.agg #[.slice Aw nw cw, .slice Ap L.length cp], .string s] w (FindPost L s w) := by
  go_enter Try.func30, Try.ntmps30
  go_wp2_with fail
  go_loopw [11] (fun i wr => ∃ k : Nat, k ≤ L.length ∧ i = .int .i64 k ∧ S.findP L s = S.findP (L.drop k) s ∧ Below w.heap.size w wr) (fun i _ => L.length - (intOf i).toNat)
  case atStart => exact ⟨0, by omega, rfl, rfl, (Below.refl _ _).alloc (Nat.le_refl _) _⟩
  case round =>
    obtain ⟨k, hk, rfl, hf, hbk⟩ := hrel
    have Hf := Lib.hid hf
    have hzk := hbk.size
    clear hf
    by_cases hlt : k < L.length
    · obtain ⟨b, off, n, v, rfl, hb, hx, hc0, hc1⟩ := (hP.below hbk).at_ hlt
      have hd := Lib.hid (find_drop (s := s) hx)
      clear hx
      have g0 : b < wr.heap.size := by omega
      by_cases hs : n = s
      · have ds := lab_eq hs
        have Hs := Lib.hid hs
        clear hs
        go_wp2_with fail
        go_ret2
        refine ⟨?_, hbk.alloc (by omega) _⟩
        rw [Hf.out, hd.out, if_pos Hs.out]
        rfl
      · have ds := lab_ne hs
        have Hs := Lib.hid hs
        clear hs
        go_wp2_with fail
        go_roundw
        case rel => exact ⟨k + 1, by omega, by go_num, by rw [Hf.out, hd.out, if_neg Hs.out], hbk.alloc (by omega) _⟩
        case measure => simp [intOf]; omega
    · have hke : k = L.length := by omega
      subst hke
      go_wp2_with fail
      go_ret2
      refine ⟨?_, hbk⟩
      rw [Hf.out, List.drop_length]
      rfl


theorem countO_take {os : List S.Obj} {k : Nat} {x : S.Obj} (hx : os[k]? = some x) : S.countO (os.take (k + 1)) = S.countO (os.take k) + S.countI x.items := by
  have hk := (List.getElem?_eq_some_iff.1 hx).1
  have he : os[k] = x := (List.getElem?_eq_some_iff.1 hx).2
  rw [List.take_succ_eq_append_getElem hk, he, countO_append]
  simp [S.countO]
theorem countI_take {xs : List S.Item} {q : Nat} {x : S.Item} (hx : xs[q]? = some x) : S.countI (xs.take (q + 1)) = S.countI (xs.take q) + (if x.kind = 2 then 0 else 1) := by
  have hk := (List.getElem?_eq_some_iff.1 hx).1
  have he : xs[q] = x := (List.getElem?_eq_some_iff.1 hx).2
  rw [List.take_succ_eq_append_getElem hk, he, countI_append]
  simp [S.countI]
theorem countO_bd (os : List S.Obj) (h : ∀ o ∈ os, o.items.length ≤ 1048576) : 0 ≤ S.countO os ∧ S.countO os ≤ os.length * 1048576 := by
  induction os with
  | nil => simp [S.countO]
  | cons x r ih =>
    have h1 := ih fun o ho => h o (List.mem_cons_of_mem _ ho)
    have h2 := countI_bd x.items
    have h3 := h x (List.mem_cons_self ..)
    simp only [S.countO, List.length_cons]
    omega

set_option maxRecDepth 100000 in
set_option maxHeartbeats 1000000 in
theorem link_Size (A : Option Addr) (c : Nat) (os : List S.Obj) (w : World) (hi : Objs w w.heap.size A os) (hl : os.length ≤ 1048576) (hit : ∀ o ∈ os, o.items.length ≤ 1048576) :
    Calls Try.prog 31 #[.slice A os.length c] w fun e w' => e = .returned (.int .i64 (S.countO os)) ∧ Below w.heap.size w w' := by
  have Hit := Lib.hid hit
  clear hit
  go_enter Try.func31, Try.ntmps31
  go_wp2_with fail
  go_loopw [3, 10] (fun n i wr => ∃ k : Nat, k ≤ os.length ∧ i = .int .i64 k ∧ n = .int .i64 (S.countO (os.take k)) ∧ Below w.heap.size w wr) (fun _ i _ => os.length - (intOf i).toNat)
  case atStart => exact ⟨0, by omega, rfl, rfl, Below.refl _ _⟩
  case round =>
    obtain ⟨k, hk, rfl, rfl, hbk⟩ := hrel
    by_cases hlt : k < os.length
    · obtain ⟨b, off, x, rfl, hb, hx, hc0, ⟨Ai, ci, hc1, hI⟩, hn, hlab⟩ := (hi.below hbk).at_ hlt
      have hzk := hbk.size
      have hbr : b < wr.heap.size := by omega
      have hcb := countO_bd (os.take k) fun o ho => Hit.out o (List.mem_of_mem_take ho)
      rw [List.length_take] at hcb
      have hil := Hit.out x (List.mem_of_getElem? hx)
      have Hct := Lib.hid (countO_take hx)
      clear hx hlab
      obtain ⟨nm, its⟩ := x
      simp only at hc0 hc1 hn hil hI
      obtain ⟨x1, x2, x3⟩ := one_allocL wr #[.string nm, .slice Ai its.length ci] 66
      go_upto_region 5 with fail
      generalize wr.alloc (.cells #[.string nm, .slice Ai its.length ci] 66) = wX at *
      have hX1 : wX.cell? ⟨wr.heap.size, 1, none⟩ = some (.slice Ai its.length ci) := by simp [World.cell?, x1]
      have hbX := hbk.trans (x2.mono (by omega))
      have hIX := hI.below (x2.mono (by omega))
      have hzX : wr.heap.size < wX.heap.size := by omega
      clear x1 x2 x3 hc0 hc1 hI
      obtain ⟨wo, hwo⟩ : ∃ wo : World, wo = wr := ⟨_, rfl⟩
      subst hwo
      generalize S.countO (os.take k) = n0 at *
      obtain ⟨c0, c1⟩ := hcb
      go_wp2_with fail
      go_loopw [3, 17] (fun n i wr => ∃ q : Nat, q ≤ its.length ∧ i = .int .i64 q ∧ n = .int .i64 (n0 + S.countI (its.take q)) ∧ Below wX.heap.size wX wr) (fun _ i _ => its.length - (intOf i).toNat)
      case atStart => exact ⟨0, by omega, rfl, by simp [S.countI], Below.refl _ _⟩
      case round =>
        obtain ⟨q, hq, rfl, rfl, hbq⟩ := hrel
        have hzq := hbq.size
        have hib := countI_bd (its.take q)
        rw [List.length_take] at hib
        obtain ⟨i0, i1⟩ := hib
        by_cases hql : q < its.length
        · obtain ⟨bi, oi, y, rfl, hbi, hy, k0, k1, k2, k3, k4, k5, k6, k7, _, _⟩ := (hIX.below (hbq.mono (by omega))).at_ hql
          have Hci := Lib.hid (countI_take hy)
          clear hy
          have g1 : bi < wr.heap.size := by omega
          generalize S.countI (its.take q) = m0 at *
          by_cases hk2 : y.kind = 2
          · have hd : (y.kind != 2) = false := by simp [hk2]
            have Hk2 := Lib.hid hk2
            clear hk2
            go_wp2_with fail
            go_roundw
            case rel => exact ⟨q + 1, by omega, by go_num, by rw [Hci.out, if_pos Hk2.out]; simp, hbq.alloc (by omega) _⟩
            case measure => simp [intOf]; omega
          · have hd : (y.kind != 2) = true := by simpa using hk2
            have Hk2 := Lib.hid hk2
            clear hk2
            go_wp2_with fail
            go_roundw
            case rel => exact ⟨q + 1, by omega, by go_num, by rw [Hci.out, if_neg Hk2.out]; go_num, hbq.alloc (by omega) _⟩
            case measure => simp [intOf]; omega
        · have hqe : q = its.length := by omega
          subst hqe
          have hfin : S.countO (os.take (k + 1)) = n0 + S.countI (its.take its.length) := by rw [Hct.out, List.take_length]
          have Hfin := Lib.hid hfin
          clear hfin
          go_wp2_with fail
          go_roundw
          case rel => exact ⟨k + 1, by omega, by go_num, by rw [Hfin.out], hbX.trans (hbq.mono (by omega))⟩
          case measure => simp [intOf]; omega
    · have hke : k = os.length := by omega
      subst hke
      rw [List.take_length]
      go_wp2_with fail
      go_ret
      exact ⟨rfl, hbk⟩

end Go.Proofs.Ytbgdomnalimjnaa
