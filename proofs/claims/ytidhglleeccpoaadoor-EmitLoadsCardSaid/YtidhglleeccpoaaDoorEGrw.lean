/- Walks: slices.Grow of nothing, slices.Concat of two, at []int. -/
import Derived.Test.YtidhglleeccpoaaDoorERis
import Derived.Lib.AppendZeros
set_option linter.unusedVariables false
set_option linter.unusedSimpArgs false
set_option linter.unusedSectionVars false
namespace Go.Proofs.YtidhglleeccpoaaDoor
open Go.RowKit

theorem zc_size (cs : Array Value) (hz : cs.size = 1) (n : Nat) : (Builtin.zeroCells cs n).size = n := by
  simp [Builtin.zeroCells, hz]

set_option maxRecDepth 100000 in
set_option maxHeartbeats 1000000 in
theorem s_Grow (n : Nat) (h0 : 0 < n) (h1 : n ≤ 1000000) (w : World) :
    Calls Tryd.prog 56 #[.slice none 0 0, .int .i64 n] w fun e w' => (∃ c, e = .returned (.slice (some ⟨w.heap.size, 0, none⟩) 0 c) ∧ w'.ownsRow w.heap.size 3 1 (.slice (some ⟨w.heap.size, 0, none⟩) 0 c) 0 []) ∧ Below w.heap.size w w' := by
  obtain ⟨i0, hi0, hz0, hz1, hz2⟩ := info_parts int_info
  have hr := fun ty w => Lib.run_append_nil_zeros (P := Tryd.prog) w 23 3 ty 3 i0 (.int .i64 0) .i64 .i64 Tryd.underlying23 Tryd.underlying3 hi0 hz0 n h0 (by omega) (by omega) (by rw [hz2]; omega)
  have Hge := Lib.hid (grownCap_ge w n 0 3)
  have Hle := Lib.hid (grownCap_le_maxLen w n 0 3 (by unfold maxLen; omega))
  obtain ⟨G, hG⟩ : ∃ G, G = grownCap w n 0 3 := ⟨_, rfl⟩
  have hr := fun ty => hr ty w
  rw [← hG] at hr Hge Hle
  have hG63 : G ≤ 9223372036854775807 := by have := Hle.out; unfold maxLen at this; omega
  have hGn : n ≤ G := Hge.out
  have Hr := Lib.hid hr
  clear hr hG
  go_enter Tryd.func56, Tryd.ntmps56
  go_wp2_with (at_builtin; refine Lib.wpList_append_run _ rfl _ _ _ _ rfl _ _ rfl rfl _ _ (Hr.out _) ?_)
  go_ret
  refine ⟨⟨G, rfl, rfl, Or.inr ⟨w.heap.size, G, _, rfl, Nat.le_refl _, heap_alloc_new w.drew _, Nat.zero_le _, Hle.out, ?_, by simp⟩⟩, Below.drew ((Below.refl _ _).alloc (Nat.le_refl _) _)⟩
  have hz : (#[Value.int .i64 0] : Array Value).size = 1 := rfl
  rw [Array.size_append, zc_size _ hz, zc_size _ hz]
  omega

theorem Ints.reads {w : World} {B : Nat} {A : Option Addr} {l : List Int} (h : Ints w B A l) : Reads w B A (l.map (Value.int .i64)) := fun hp => by
  obtain ⟨b, off, e, hB, hc⟩ := h (by simpa using hp)
  refine ⟨b, off, e, hB, fun i v hv => ?_⟩
  rw [List.getElem?_map] at hv
  cases hx : l[i]? with
  | none => rw [hx] at hv; simp at hv
  | some x =>
    rw [hx] at hv
    simp only [Option.map_some, Option.some.injEq] at hv
    rw [← hv]
    exact hc i x hx

set_option maxRecDepth 100000 in
set_option maxHeartbeats 1000000 in
theorem s_Concat (B sb : Nat) (w : World) (A1 A2 : Option Addr) (l1 l2 : List Int) (c1 c2 : Nat) (hs : w.heap[sb]? = some (.cells #[.slice A1 l1.length c1, .slice A2 l2.length c2] 23 (0, 0))) (h1 : Ints w B A1 l1) (h2 : Ints w B A2 l2) (hB : B ≤ w.heap.size) (hp : 0 < l1.length) (hl1 : l1.length ≤ 1000) (hl2 : l2.length ≤ 1000) (hn1 : A1 = none → l1.length = 0) (hn2 : A2 = none → l2.length = 0) :
    Calls Tryd.prog 26 #[.slice (some ⟨sb, 0, none⟩) 2 2] w fun e w' => (∃ A c, e = .returned (.slice A (l1 ++ l2).length c) ∧ w'.ownsRow w.heap.size 3 1 (.slice A (l1 ++ l2).length c) (l1 ++ l2).length ((l1 ++ l2).map (Value.int .i64))) ∧ Below w.heap.size w w' := by
  have hslt : sb < w.heap.size := by
    rcases Nat.lt_or_ge sb w.heap.size with h' | h'
    · exact h'
    · simp [Array.getElem?_eq_none h'] at hs
  obtain ⟨n1, hN1⟩ : ∃ n1 : Nat, n1 = l1.length := ⟨_, rfl⟩
  obtain ⟨n2, hN2⟩ : ∃ n2 : Nat, n2 = l2.length := ⟨_, rfl⟩
  rw [List.length_append, ← hN1, ← hN2]
  rw [← hN1, ← hN2] at hs
  rw [← hN1] at hp hl1 hn1
  rw [← hN2] at hl2 hn2
  have HN1 := Lib.hid hN1
  have HN2 := Lib.hid hN2
  have k0 : w.cell? ⟨sb, 0, none⟩ = some (.slice A1 n1 c1) := by rw [Lib.cell_of_heap hs]; rfl
  have k1 : w.cell? ⟨sb, 1, none⟩ = some (.slice A2 n2 c2) := by rw [Lib.cell_of_heap hs]; rfl
  have H1 := Lib.hid h1
  have H2 := Lib.hid h2
  have Hn1 := Lib.hid hn1
  have Hn2 := Lib.hid hn2
  have Hs := Lib.hid hs
  clear hs hN1 hN2 h1 h2 hn1 hn2
  have wr1 : IntKind.i64.wrap ((n1 : Int) + (n2 : Int)) = ((n1 + n2 : Nat) : Int) := by rw [IntWalk.i64_in _ (by omega)]; omega
  go_enter Tryd.func26, Tryd.ntmps26
  go_wp2_with fail
  go_loopw [3, 5, 11] (fun v3 _ v11 wr => w = wr ∧ ((v11 = .int .i64 0 ∧ v3 = .int .i64 0) ∨ (v11 = .int .i64 1 ∧ v3 = .int .i64 n1) ∨ (v11 = .int .i64 2 ∧ v3 = .int .i64 ((n1 + n2 : Nat) : Int)))) (fun _ _ v11 _ => 2 - (intOf v11).toNat)
  case atStart => exact ⟨rfl, Or.inl ⟨rfl, rfl⟩⟩
  case round =>
    obtain ⟨rfl, hc⟩ := hrel
    rcases hc with ⟨rfl, rfl⟩ | ⟨rfl, rfl⟩ | ⟨rfl, rfl⟩
    · go_wp2_with fail
      go_roundw
      case rel => exact ⟨trivial, Or.inr (Or.inl ⟨rfl, by go_num⟩)⟩
      case measure => simp [intOf]
    · go_wp2_with fail
      go_roundw
      case rel => exact ⟨trivial, Or.inr (Or.inr ⟨rfl, by go_num⟩)⟩
      case measure => simp [intOf]
    · clear wr1
      go_wp2_with (go_at_call 56; refine (s_Grow (n1 + n2) (by omega) (by omega) _).mono ?_; rintro e w2 ⟨⟨c, rfl, ho⟩, hb⟩)
      have Ho := Lib.hid ho
      have Hb := Lib.hid hb
      clear ho hb k0 k1
      go_loopw [6, 8, 27] (fun v6 _ v27 wl => Below w.heap.size w wl ∧ ((v27 = .int .i64 0 ∧ wl.ownsRow w.heap.size 3 1 v6 0 []) ∨ (v27 = .int .i64 1 ∧ wl.ownsRow w.heap.size 3 1 v6 n1 (l1.map (Value.int .i64))) ∨ (v27 = .int .i64 2 ∧ wl.ownsRow w.heap.size 3 1 v6 (n1 + n2) ((l1 ++ l2).map (Value.int .i64))))) (fun _ _ v27 _ => 2 - (intOf v27).toNat)
      case atStart => exact ⟨Hb.out, Or.inl ⟨rfl, Ho.out⟩⟩
      case round =>
        obtain ⟨hbw, hc⟩ := hrel
        rcases hc with ⟨rfl, ho⟩ | ⟨rfl, ho⟩ | ⟨rfl, ho⟩
        · have k0 : wr.cell? ⟨sb, 0, none⟩ = some (.slice A1 n1 c1) := (hbw.cell (p := ⟨sb, 0, none⟩) hslt).trans (by rw [Lib.cell_of_heap Hs.out]; rfl)
          have Hr := Lib.hid (H1.out.below (hbw.mono hB)).reads
          have Hln := Lib.hid (show (l1.map (Value.int .i64)).length = n1 * 1 by rw [List.length_map, ← HN1.out, Nat.mul_one])
          have Ho := Lib.hid ho
          have Hsz := Lib.hid (hbw.size)
          clear ho
          go_wp2_with (at_builtin; refine wpList_appendsN rfl (.tmp 31) (.tmp 32) _ rfl w.heap.size 3 int_info Tryd.underlying23 rfl (by decide) _ _ _ rfl Ho.out B A1 n1 c1 _ rfl Hln.out Hn1.out Hr.out (fun u hu => by obtain ⟨x, _, rfl⟩ := List.mem_map.1 hu; rfl) (by simp only [maxLen]; omega) (by omega) Hsz.out ?_)
          intro v' w3 ho3 hg3 hb3 _
          have Hb3 := Lib.hid (hbw.trans hb3)
          have Ho3 := Lib.hid ho3
          clear ho3 hg3 hb3 k0
          go_wp2_with fail
          go_roundw
          case rel => exact ⟨Hb3.out, Or.inr (Or.inl ⟨rfl, by simpa using Ho3.out⟩)⟩
          case measure => simp [intOf]
        · have k1 : wr.cell? ⟨sb, 1, none⟩ = some (.slice A2 n2 c2) := (hbw.cell (p := ⟨sb, 1, none⟩) hslt).trans (by rw [Lib.cell_of_heap Hs.out]; rfl)
          have Hr := Lib.hid (H2.out.below (hbw.mono hB)).reads
          have Hln := Lib.hid (show (l2.map (Value.int .i64)).length = n2 * 1 by rw [List.length_map, ← HN2.out, Nat.mul_one])
          have Ho := Lib.hid ho
          have Hsz := Lib.hid (hbw.size)
          clear ho
          go_wp2_with (at_builtin; refine wpList_appendsN rfl (.tmp 31) (.tmp 32) _ rfl w.heap.size 3 int_info Tryd.underlying23 rfl (by decide) _ _ _ rfl Ho.out B A2 n2 c2 _ rfl Hln.out Hn2.out Hr.out (fun u hu => by obtain ⟨x, _, rfl⟩ := List.mem_map.1 hu; rfl) (by simp only [maxLen]; omega) (by omega) Hsz.out ?_)
          intro v' w3 ho3 hg3 hb3 _
          have Hb3 := Lib.hid (hbw.trans hb3)
          have Ho3 := Lib.hid ho3
          clear ho3 hg3 hb3 k1
          go_wp2_with fail
          go_roundw
          case rel => exact ⟨Hb3.out, Or.inr (Or.inr ⟨rfl, by simpa using Ho3.out⟩)⟩
          case measure => simp [intOf]
        · obtain ⟨A', c', rfl⟩ := ownsRow_form ho
          have Ho := Lib.hid ho
          clear ho
          go_wp2_with fail
          go_ret
          exact ⟨⟨A', c', rfl, Ho.out⟩, hbw⟩

end Go.Proofs.YtidhglleeccpoaaDoor
