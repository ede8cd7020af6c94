/- Walk of the law EmitMaps. -/
import Derived.Test.YtkdalaiponchbaaDoorESam
import Derived.Test.YtkdalaiponchbaaDoorEWrk
import Derived.Test.YtkdalaiponchbaaDoorEMpS
import Derived.BigQuiet
set_option linter.unusedVariables false
set_option linter.unusedSimpArgs false
set_option linter.unusedSectionVars false
namespace Go.Proofs.YtkdalaiponchbaaDoor
open Go.RowKit

theorem onesP_bd (w : Int) : ∀ k : Nat, 0 ≤ onesP w k ∧ onesP w k ≤ k
  | 0 => by simp [onesP]
  | k + 1 => by
    have := onesP_bd w k
    show 0 ≤ onesP w k + w / 2 ^ k % 2 ∧ onesP w k + w / 2 ^ k % 2 ≤ ((k + 1 : Nat) : Int)
    omega

theorem cntB_bd (l : List Int) (a : Int) : ∀ n : Nat, 0 ≤ cntB l a n ∧ cntB l a n ≤ n
  | 0 => by simp [cntB]
  | n + 1 => by
    have h1 := cntB_bd l a n
    have h2 := mapBit_bd l (a + n)
    show 0 ≤ cntB l a n + S.mapBit l (a + n) ∧ cntB l a n + S.mapBit l (a + n) ≤ ((n + 1 : Nat) : Int)
    omega

set_option maxRecDepth 100000 in
set_option maxHeartbeats 1000000 in
theorem l_ones (x : Int) (h0 : 0 ≤ x) (h1 : x ≤ 4294967295) (w : World) : Calls Tryd.prog 17 #[.int .u32 x] w fun e w' => e = .returned (.int .i64 (onesP x 32)) ∧ w' = w := by
  go_enter Tryd.func17, Tryd.ntmps17
  go_wp2_with fail
  go_loopw [3, 4] (fun v3 v4 wl => w = wl ∧ ∃ k : Nat, k ≤ 32 ∧ v4 = .int .i64 k ∧ v3 = .int .i64 (onesP x k)) (fun _ v4 _ => 32 - (intOf v4).toNat)
  case atStart => exact ⟨rfl, 0, by omega, rfl, rfl⟩
  case round =>
    obtain ⟨rfl, k, hk, rfl, rfl⟩ := hrel
    by_cases hlt : k < 32
    · have hb := onesP_bd x k
      have Hs := Lib.hid (show onesP x (k + 1) = onesP x k + x / 2 ^ k % 2 from rfl)
      obtain ⟨m, hm⟩ : ∃ m, m = onesP x k := ⟨_, rfl⟩
      rw [← hm] at hb Hs ⊢
      have hp : (1 : Int) ≤ 2 ^ k := by have : (0 : Int) < 2 ^ k := Int.pow_pos (by omega); omega
      have q0 : 0 ≤ x / 2 ^ k := Int.ediv_nonneg h0 (by omega)
      have q1 : x / 2 ^ k ≤ x := Int.ediv_le_self _ h0
      obtain ⟨q, hq⟩ : ∃ q, q = x / 2 ^ k := ⟨_, rfl⟩
      rw [← hq] at q0 q1 Hs
      have hmk := u32_mask 1 q 2 1 rfl rfl (by omega) q0 (by omega)
      have wq : IntKind.u32.wrap q = q := by rw [IntKind.wrap_u32]; omega
      have hu : IntKind.u64.wrap (k : Int) = k := by rw [IntKind.wrap_u64]; omega
      have hq2 := hq.symm
      have ht : ((k : Int)).toNat = k := by omega
      clear hm hq
      go_wp2_with fail
      exact ⟨⟨trivial, k + 1, by omega, by go_num, by rw [Hs.out]⟩, by simp [intOf]; omega⟩
    · have hk2 : k = 32 := by omega
      subst hk2
      go_wp2_with fail
      go_ret
      exact ⟨rfl, rfl⟩


theorem neT {a b : Int} (h : a ≠ b) : (a != b) = true := by simp [h]
def callV (xs : List VL) : List VL := xs.filter (fun x => decide (x.i.op = 67))
theorem callV_add (xs : List VL) (x : VL) : callV (xs ++ [x]) = if x.i.op = 67 then callV xs ++ [x] else callV xs := by
  unfold callV
  rw [List.filter_append]
  by_cases h : x.i.op = 67 <;> simp [h]
theorem callV_map (xs : List VL) : (callV xs).map VL.i = callsOf (xs.map VL.i) := by
  unfold callV callsOf
  rw [List.filter_map]
  rfl

set_option maxRecDepth 100000 in
set_option maxHeartbeats 4000000 in
theorem law_EmitMaps (f : S.VFunc) (A : Option Addr) (c : Nat) (xs : List VL) (hfi : f.insts = xs.map VL.i) (w : World) (hL : LVE w) (hv : VLs w w.heap.size A xs) (hl : xs.length ≤ 9223372036854775807) (hin : ∀ x ∈ xs, VIn w w.heap.size x) (hfn : I64 f.fn)
    (W : Option Addr) (cW : Nat) (words : List Int) (hW : U32s w w.heap.size W words) (hWl : words.length ≤ 9223372036854775807) :
    Calls Tryd.prog 5 #[.agg (vfCells f (.slice A xs.length c)), .slice W words.length cW] w fun e w' => e = .returned (.bool true) ∧ Below w.heap.size w w' := by
  have hfw := fun W9 (hb : Below w.heap.size w W9) => l_few f.fn f.regs f.slots f.need f.params f.rest A c xs W9 ((hv.below hb).more hb.size) hl (fun x hx => ⟨(hin x hx).ul, (hin x hx).ml⟩)
  have hw := fun W9 (hb : Below w.heap.size w W9) => l_works W9 (hL.on hb)
  cases hfew : fewB f.slots xs with
  | false =>
    rw [hfew] at hfw
    obtain ⟨fn, regs, slots, need, params, rest, insts⟩ := f
    unfold vfCells
    simp only at *
    obtain ⟨N, hN⟩ : ∃ N : Nat, N = xs.length := ⟨_, rfl⟩
    rw [← hN] at hfw ⊢
    have Hfw := Lib.hid hfw
    have Hw := Lib.hid hw
    have Hb1 := Lib.hid (show Below w.heap.size w (w.alloc (.cells #[.int .i64 fn, .int .i64 regs, .int .i64 slots, .int .i64 need, .int .i64 params, .bool rest, .slice A N c] 24)) from (Below.refl _ _).alloc (Nat.le_refl _) _)
    clear hfw hw hN hin hv hfi hfew hW hL
    go_enter Tryd.func5, Tryd.ntmps5
    go_wp2_with fail
    refine (Hfw.out _ Hb1.out).mono ?_
    rintro e w2 ⟨rfl, hb2⟩
    have Z2 := Lib.hid (Hb1.out.trans (hb2.mono Hb1.out.size))
    clear hb2
    go_wp2_with fail
    refine (Hw.out _ Z2.out).mono ?_
    rintro e w3 ⟨rfl, hb3⟩
    go_wp2_with fail
    go_ret
    exact ⟨rfl, Z2.out.trans (hb3.mono Z2.out.size)⟩
  | true =>
    rw [hfew] at hfw
    obtain ⟨k1, k2, k3⟩ := few_all hfew
    have hok : ∀ x ∈ xs, VOk w w.heap.size x := fun x hx => (hin x hx).ok (k3 x hx).1 (k3 x hx).2
    have hokb := fun W9 (hb : Below w.heap.size w W9) x hx => ((hok x hx).below hb).more hb.size
    have hE := fun W9 (hb : Below w.heap.size w W9) => e_Emit f A c xs hfi W9 (hL.on hb) ((hv.below hb).more hb.size) (hokb W9 hb) k1 k2 hfn W cW words ((hW.below hb).more hb.size) hWl
    have hlab := fun (n : Int) (hn : I64 n) W9 (hb : Below w.heap.size w W9) => e_Label n hn W9 (hL.on hb)
    obtain ⟨nm, hnm⟩ : ∃ nm, nm = S.emitName f words := ⟨_, rfl⟩
    obtain ⟨it, hit⟩ : ∃ it, it = S.emitItems f words := ⟨_, rfl⟩
    obtain ⟨er, her⟩ : ∃ er, er = S.emitE f words := ⟨_, rfl⟩
    have herr : (er = 2 ∧ it = []) ∨ (er = 0 ∧ it = S.eentry f ++ f.insts.flatMap (S.eitems words) ∧ S.echk f = 0) := by
      rw [her, hit]
      by_cases h0 : S.emitE f words = 0
      · refine Or.inr ⟨h0, (emit_good h0).2, ?_⟩
        unfold S.emitE at h0
        split at h0
        · rename_i h; exact h.1
        · cases h0
      · have h2 : S.emitE f words = 2 := by
          unfold S.emitE at h0 ⊢
          split
          · rename_i h; rw [if_pos h] at h0; exact absurd rfl h0
          · rfl
        exact Or.inl ⟨h2, (emit_bad h2).2⟩
    unfold EmitPost at hE
    rw [← hnm, ← hit, ← her] at hE
    obtain ⟨ni, hni⟩ : ∃ ni, ni = it.length := ⟨_, rfl⟩
    rw [← hni] at hE
    have Herr := Lib.hid herr
    have Hni := Lib.hid hni
    have Hfacts := Lib.hid (fun h => @echk_facts f h)
    have Hent := Lib.hid (eentry_noW f)
    have Henl := Lib.hid (eentry_len f)
    have herc : er = 2 ∨ er = 0 := by rcases herr with h | h; exact Or.inl h.1; exact Or.inr h.1
    have hni2 : er = 2 → ni = 0 := fun h => by
      rcases herr with h' | h'
      · rw [hni, h'.2]; rfl
      · have := h'.1; omega
    have Hni2 := Lib.hid hni2
    have Hpos := Lib.hid (show er = 0 → 0 < ni from fun h => by
      rcases herr with h' | h'
      · have := h'.1; omega
      · rw [hni, h'.2.1]; simp [S.eentry])
    have Hnib := Lib.hid (show ni ≤ 700000 from by
      rcases herr with h' | h'
      · rw [hni, h'.2]; simp
      · rw [hni, h'.2.1, List.length_append]
        have h1 := eentry_len f
        have h2 := flat_len words f.insts (fun i hi s hs' => by
          have h9 := (einst_facts ((echk_facts h'.2.2).2 i hi).1).2.1 s hs'
          omega)
        have h3 : f.insts.length ≤ 300 := by rw [hfi, List.length_map]; exact k1
        omega)
    obtain ⟨fn, regs, slots, need, params, rest, insts⟩ := f
    unfold vfCells at *
    simp only at *
    obtain ⟨N, hN⟩ : ∃ N : Nat, N = xs.length := ⟨_, rfl⟩
    obtain ⟨NW, hNW⟩ : ∃ NW : Nat, NW = words.length := ⟨_, rfl⟩
    rw [← hN] at hfw hE k1 ⊢
    rw [← hNW] at hE hWl ⊢
    have HN := Lib.hid hN
    have Hfw := Lib.hid hfw
    have Hw := Lib.hid hw
    have HE := Lib.hid hE
    have Hlab := Lib.hid hlab
    have Hv := Lib.hid hv
    have Hok := Lib.hid hok
    have Hfi := Lib.hid hfi
    have hb1 : Below w.heap.size w (w.alloc (.cells #[.int .i64 fn, .int .i64 regs, .int .i64 slots, .int .i64 need, .int .i64 params, .bool rest, .slice A N c] 24)) := (Below.refl _ _).alloc (Nat.le_refl _) _
    have hcr := heap_alloc_new w (.cells #[.int .i64 fn, .int .i64 regs, .int .i64 slots, .int .i64 need, .int .i64 params, .bool rest, .slice A N c] 24)
    have hz1 : w.heap.size < (w.alloc (.cells #[.int .i64 fn, .int .i64 regs, .int .i64 slots, .int .i64 need, .int .i64 params, .bool rest, .slice A N c] 24)).heap.size := by simp
    have hsl : slots ≤ 60000 := k2
    clear hfw hw hE hN hNW hni herr hni2 hnm hit her hlab hv hok hokb hfi hin hL hW hfew k2 k3
    go_enter Tryd.func5, Tryd.ntmps5
    go_upto_region 1 with fail
    generalize w.alloc (.cells #[.int .i64 fn, .int .i64 regs, .int .i64 slots, .int .i64 need, .int .i64 params, .bool rest, .slice A N c] 24) = w1 at *
    have Hc := Lib.hid (fun (w9 : World) (hb : Below w1.heap.size w1 w9) => (show w9.cell? ⟨w.heap.size, 0, none⟩ = some (.int .i64 fn) ∧ w9.cell? ⟨w.heap.size, 1, none⟩ = some (.int .i64 regs) ∧ w9.cell? ⟨w.heap.size, 2, none⟩ = some (.int .i64 slots) ∧ w9.cell? ⟨w.heap.size, 3, none⟩ = some (.int .i64 need) ∧ w9.cell? ⟨w.heap.size, 4, none⟩ = some (.int .i64 params) ∧ w9.cell? ⟨w.heap.size, 5, none⟩ = some (.bool rest) ∧ w9.cell? ⟨w.heap.size, 6, none⟩ = some (.slice A N c) from by
      have e1 := (hb.block w.heap.size hz1).trans hcr
      refine ⟨?_, ?_, ?_, ?_, ?_, ?_, ?_⟩
      all_goals (rw [Lib.cell_of_heap e1]; rfl)))
    have Hb1 := Lib.hid hb1
    have Hz1 := Lib.hid hz1
    clear hb1 hcr
    obtain ⟨p0, p1, p2, p3, p4, p5, p6⟩ := Hc.out w1 (Below.refl _ _)
    go_wp2_with fail
    refine (Hfw.out _ Hb1.out).mono ?_
    rintro e w2 ⟨rfl, hb2⟩
    have Z2 := Lib.hid hb2
    clear hb2 p0 p1 p2 p3 p4 p5 p6
    obtain ⟨p0, p1, p2, p3, p4, p5, p6⟩ := Hc.out w2 Z2.out
    go_wp2_with fail
    refine (HE.out _ (Hb1.out.trans (Z2.out.mono Hb1.out.size))).mono ?_
    rintro e w3 ⟨v3, rfl, ho3, hb3⟩
    obtain ⟨A3, c3, rfl⟩ := ownsRow_form ho3
    have Z3 := Lib.hid (Z2.out.trans (hb3.mono Z2.out.size))
    have Ho3 := Lib.hid ho3
    clear ho3 hb3 p0 p1 p2 p3 p4 p5 p6
    have hbX : Below w3.heap.size w3 (w3.alloc (.cells #[.string nm, .slice A3 ni c3] 30)) := (Below.refl _ _).alloc (Nat.le_refl _) _
    have hrX := heap_alloc_new w3 (.cells #[.string nm, .slice A3 ni c3] 30)
    have hzX : w3.heap.size < (w3.alloc (.cells #[.string nm, .slice A3 ni c3] 30)).heap.size := by simp
    go_upto_region 4 with fail
    generalize w3.alloc (.cells #[.string nm, .slice A3 ni c3] 30) = w4 at *
    have Z4 := Lib.hid (Z3.out.trans (hbX.mono Z3.out.size))
    have Ho4 := Lib.hid (ownsRow_below Ho3.out hbX)
    have Hb4 := Lib.hid (Hb1.out.trans (Z4.out.mono Hb1.out.size))
    have Hox := Lib.hid (fun (w9 : World) (hb : Below w4.heap.size w4 w9) => (show w9.cell? ⟨w3.heap.size, 1, none⟩ = some (.slice A3 ni c3) from by
      rw [Lib.cell_of_heap ((hb.block w3.heap.size hzX).trans hrX)]; rfl))
    have HzX := Lib.hid hzX
    clear hbX hrX hzX
    have x1 := Hox.out w4 (Below.refl _ _)
    rcases herc with he2 | he0
    · have hn0 := Hni2.out he2
      subst he2
      subst hn0
      go_wp2_with fail
      refine (Hw.out _ Hb4.out).mono ?_
      rintro e w5 ⟨rfl, hb5⟩
      go_wp2_with fail
      go_ret
      exact ⟨rfl, Hb4.out.trans (hb5.mono Hb4.out.size)⟩
    · have hpos := Hpos.out he0
      have Hit := Lib.hid (show it = S.eentry ⟨fn, regs, slots, need, params, rest, insts⟩ ++ insts.flatMap (S.eitems words) ∧ S.echk ⟨fn, regs, slots, need, params, rest, insts⟩ = 0 from by
        rcases Herr.out with h | h
        · have := h.1; omega
        · exact h.2)
      subst he0
      clear x1
      go_wp2_with fail
      go_loopw [7, 8] (fun v7 v8 wl => ∃ k : Nat, k ≤ N ∧ v8 = .int .i64 k ∧ (∃ A7 n7 c7, v7 = .slice A7 n7 c7 ∧ n7 ≤ k ∧ Hid (wl.ownsRow w4.heap.size 44 8 (.slice A7 n7 c7) n7 ((callV (xs.take k)).flatMap VL.cells))) ∧ Hid (Below w4.heap.size w4 wl)) (fun _ v8 _ => N - (intOf v8).toNat)
      case atStart => exact ⟨0, by omega, rfl, ⟨none, 0, 0, rfl, by omega, Lib.hid (World.ownsRow_nil _ _ _ _)⟩, Lib.hid (Below.refl _ _)⟩
      case round =>
        obtain ⟨k, hk, rfl, ⟨A7, n7, c7, rfl, hn7, HO⟩, HB⟩ := hrel
        obtain ⟨p0, p1, p2, p3, p4, p5, p6⟩ := Hc.out wr (Z4.out.trans (HB.out.mono Z4.out.size))
        have hwr := Hb4.out.trans (HB.out.mono Hb4.out.size)
        by_cases hlt : k < N
        · have hkx : k < xs.length := by rw [← HN.out]; exact hlt
          obtain ⟨b, off, x, hAe, hbB, hge, hVA⟩ := ((Hv.out.below hwr)).at_ hkx
          rw [hAe] at p6
          have Hil := Lib.hid ((mv_split xs k x hge).2)
          have Hcv := Lib.hid (callV_add (xs.take k) x)
          obtain ⟨q0, q1, q2, q3, q4, q5, q6, q7⟩ := hVA
          have hzr := HB.out.size
          clear hge hAe hwr
          by_cases h67 : x.i.op = 67
          · rw [if_pos h67] at Hcv
            have H67 := Lib.hid h67
            rw [h67] at q0
            clear h67
            go_wp2_with (at_builtin
                         refine wpList_push rfl (.tmp 49) (.tmp 55) _ rfl w4.heap.size 44 vinst_info Tryd.underlying22 rfl (by decide) #[.int .i64 67, .int .i64 x.i.d, .int .i64 x.i.a, .int .i64 x.i.b, .int .i64 x.i.imm, .int .i64 x.i.label, .slice x.U x.i.uses.length x.cu, .slice x.M x.i.map.length x.cm] _ _ _ rfl HO.out rfl rfl rfl (by simp [Value.oneCell']) (by simp only [maxLen]; omega) (by omega) hzr ?_
                         intro v' w7 ho7 hg7 hb7 _
                         obtain ⟨A8, c8, rfl⟩ := ownsRow_form ho7)
            go_roundw
            case rel =>
              refine ⟨k + 1, by omega, by go_num, ⟨A8, n7 + 1, c8, rfl, by omega, Lib.hid ?_⟩, Lib.hid (HB.out.trans hb7)⟩
              rw [Hil.out, Hcv.out, List.flatMap_append, List.flatMap_singleton]
              rw [show x.cells = [.int .i64 67, .int .i64 x.i.d, .int .i64 x.i.a, .int .i64 x.i.b, .int .i64 x.i.imm, .int .i64 x.i.label, .slice x.U x.i.uses.length x.cu, .slice x.M x.i.map.length x.cm] by unfold VL.cells; rw [H67.out]]
              exact ho7
            case measure => simp [intOf]; omega
          · rw [if_neg h67] at Hcv
            have hne := int_bne h67
            clear h67
            go_wp2_with fail
            go_roundw
            case rel =>
              refine ⟨k + 1, by omega, by go_num, ⟨A7, n7, c7, rfl, by omega, Lib.hid ?_⟩, HB⟩
              rw [Hil.out, Hcv.out]
              exact HO.out
            case measure => simp [intOf]; omega
        · have hkN : N = k := by omega
          subst hkN
          have ht : xs.take N = xs := by rw [HN.out, List.take_length]
          rw [ht] at HO
          have hoi := ownsRow_below Ho4.out HB.out
          obtain ⟨gi, egi, hgi1, hgi2, hgi3, hgi4, hgi5⟩ := ownsRow_at hoi hpos
          subst egi
          have HIt := Lib.hid (fun (w9 : World) (hb : Below wr.heap.size wr w9) (j : Nat) (y : S.Item) (hy : it[j]? = some y) (q : Nat) (hq : q < 8) => (show w9.cell? ⟨gi, j * 8 + q, none⟩ = (itemCells y)[q]? from by
            have hj := (List.getElem?_eq_some_iff.1 hy).1
            rw [← Hni.out] at hj
            rw [hb.cell (p := ⟨gi, j * 8 + q, none⟩) hgi2, hgi4 _ (by omega), flat_item it j y hy q hq]))
          have hn7e : n7 = (callV xs).length := by
            have := HO.out.1
            rw [vflat_len] at this
            omega
          have HCl := Lib.hid (fun (w9 : World) (hb : Below wr.heap.size wr w9) (n : Nat) (y : VL) (hy : (callV xs)[n]? = some y) => (show ∃ gc, A7 = some ⟨gc, 0, none⟩ ∧ gc < w9.heap.size ∧ n < n7 ∧ ∀ q, q < 8 → w9.cell? ⟨gc, n * 8 + q, none⟩ = y.cells[q]? from by
            have hn := (List.getElem?_eq_some_iff.1 hy).1
            obtain ⟨gc, egc, _, hg2, _, hg4, _⟩ := ownsRow_at HO.out (by omega)
            exact ⟨gc, egc, Nat.lt_of_lt_of_le hg2 hb.size, by omega, fun q hq => by rw [hb.cell (p := ⟨gc, n * 8 + q, none⟩) hg2, hg4 _ (by omega), vflat_at _ n y hy q hq]⟩))
          have Hcm := Lib.hid (show callsOf insts = (callV xs).map VL.i from by rw [callV_map, ← Hfi.out])
          have Hn7 := Lib.hid hn7e
          have Hstart := Lib.hid (show AtA words insts it 0 0 from ⟨_, 0, Hent.out, by rw [List.drop_zero, List.drop_zero]; exact Hit.out.1, rfl⟩)
          have Hf2 := Lib.hid (Hfacts.out Hit.out.2)
          have hgiw : gi < wr.heap.size := hgi2
          have HBw := Lib.hid hwr
          have HB4 := HB
          clear ht hoi hgi1 hgi2 hgi3 hgi4 hgi5 hn7e hwr Ho4
          have x1 := Hox.out wr HB.out
          have hni7 := Hnib.out
          go_wp2_with fail
          clear x1 p0 p1 p2 p3 p4 p5 p6
          have Hwr0 := Lib.hid (Below.refl wr.heap.size wr)
          go_loopw [9, 10, 11, 12, 13, 14, 15] (fun v9 v10 _ _ _ _ _ wl => ∃ n i : Nat, i ≤ ni ∧ n ≤ 300 ∧ v9 = .int .i64 n ∧ v10 = .int .i64 i ∧ Hid (AtA words insts it i n ∨ ∃ x, AtB words insts it i n x) ∧ Hid (Below wr.heap.size wr wl)) (fun _ v10 _ _ _ _ _ _ => ni - (intOf v10).toNat)
          case atStart => exact ⟨0, 0, by omega, by omega, rfl, rfl, Lib.hid (Or.inl Hstart.out), Hwr0⟩
          case round =>
            obtain ⟨n, i, hi, hn3, rfl, rfl, HS, HB5⟩ := hrel
            have x1 := Hox.out wr (HB4.out.trans (HB5.out.mono HB4.out.size))
            have hiw := fun j y hy q hq => HIt.out wr HB5.out j y hy q hq
            have Hiw := Lib.hid hiw
            clear hiw
            by_cases hlt : i < ni
            · rcases HS.out with hA | ⟨x, hB⟩
              · obtain ⟨y, hy, hk6, hnx⟩ := hA.next (by rw [← Hni.out]; exact hlt)
                have c0 := Hiw.out i y hy 0 (by omega)
                simp only [itemCells, List.getElem?_cons_zero, Nat.add_zero] at c0
                have hne := neT hk6
                have Hnx := Lib.hid hnx
                clear hy hk6 hnx hA HS
                go_wp2_with fail
                go_roundw
                case rel => exact ⟨n, i + 1, by omega, hn3, rfl, by go_num, Hnx, HB5⟩
                case measure => simp [intOf]; omega
              · have hw := hB.word
                have hpv := hB.prev
                have hlt2 := hB.lt
                rw [← Hni.out] at hlt2
                obtain ⟨hcl, hxm⟩ := hB.call
                rw [Hcm.out, List.getElem?_map] at hcl
                obtain ⟨y, hy, hyx⟩ : ∃ y, (callV xs)[n]? = some y ∧ y.i = x := by
                  cases hc : (callV xs)[n]? with
                  | none => rw [hc] at hcl; cases hcl
                  | some y => rw [hc] at hcl; exact ⟨y, rfl, by simpa using hcl⟩
                subst hyx
                have hyxs : y ∈ xs := by
                  have := List.mem_of_getElem? hy
                  exact (List.mem_filter.1 this).1
                obtain ⟨gc, egc, hgc, hnn7, hcc⟩ := HCl.out wr HB5.out n y hy
                have hvo := Hok.out y hyxs
                obtain ⟨hein, _⟩ := Hf2.out.2 y.i hxm
                obtain ⟨e1, e2, _⟩ := einst_facts hein
                have e2' : ∀ s ∈ y.i.map, 0 ≤ s ∧ s < 60000 := fun s hs' => by have h9 := e2 s hs'; have h10 : s < slots := h9.2; omega
                have e2'' : ∀ s ∈ y.i.map, 0 ≤ s ∧ s < 16777216 := fun s hs' => by have h9 := e2' s hs'; omega
                have hml := mapLen_le e2'
                have Htot := Lib.hid (map_total e1 e2'')
                have Hr1 := Lib.hid e1
                have Hr2 := Lib.hid e2''
                have HBB := Lib.hid hB
                have Hvo := Lib.hid hvo
                obtain ⟨m, hm⟩ : ∃ m, m = S.mapLen y.i.map := ⟨_, rfl⟩
                rw [← hm] at hw hlt2 hml Htot
                have Hm := Lib.hid hm
                have Hmw := Lib.hid (fun q (hq : q < m) => (hB.map (q := q) (by rw [← hm]; exact hq)))
                have hnx := hB.next
                rw [← hm] at hnx
                have Hnx := Lib.hid hnx
                have a0 := Hiw.out i _ hw 0 (by omega)
                have a7 := Hiw.out i _ hw 7 (by omega)
                have b0 := Hiw.out (i - 1) _ hpv.2 0 (by omega)
                have b2 := Hiw.out (i - 1) _ hpv.2 2 (by omega)
                have b6 := Hiw.out (i - 1) _ hpv.2 6 (by omega)
                have y4 := hcc 4 (by omega)
                have y7 := hcc 7 (by omega)
                simp only [itemCells, S.iWord, S.iJump, VL.cells, List.getElem?_cons_zero, List.getElem?_cons_succ, Nat.add_zero] at a0 a7 b0 b2 b6 y4 y7
                have hi0 : ((i : Int) == 0) = false := int_bne (by have := hpv.1; omega)
                have hw1 : IntKind.i64.wrap ((i : Int) - 1) = ((i - 1 : Nat) : Int) := by rw [IntWalk.i64_in _ (by omega)]; have := hpv.1; omega
                have hg0 : (0 : Int) ≤ ((i - 1 : Nat) : Int) := by omega
                have hg1 : ((i - 1 : Nat) : Int) < (ni : Int) := by omega
                have hn0 : (0 : Int) ≤ (n : Int) := by omega
                have hn1 : (n : Int) < (n7 : Int) := by omega
                have hn2 : ¬ (n7 : Int) ≤ (n : Int) := by omega
                have hgi : gi < wr.heap.size := Nat.lt_of_lt_of_le hgiw HB5.out.size
                have hzx : w3.heap.size < wr.heap.size := Nat.lt_of_lt_of_le HzX.out (Nat.le_trans HB4.out.size HB5.out.size)
                have HBw5 := Lib.hid (HBw.out.trans (HB5.out.mono HBw.out.size))
                have Hlb := Lib.hid (fun yy : Ext wr => Hlab.out y.i.imm Hvo.out.imm yy.val (HBw5.out.trans (yy.property.mono HBw5.out.size)))
                subst egc
                clear hB hw hpv hcl hxm hy hcc hvo hein e1 e2 e2' e2'' hm hnx HS
                go_upto_region 17 with fail
                go_cut [115] from 58 to 212 (fun v115 wc => v115 = .bool false ∧ Hid (Below wr.heap.size wr wc))
                case first =>
                  refine wp_region_ext (by kernel_rfl) (by kernel_rfl) ?_
                  have hE := ext_cells wr
                  repeat (first
                    | go_big_quiet_step ((go_at_call 15; exact ext_of (Hlb.out _))))
                  refine wpQuiet_nil ?_
                  rintro w7 ⟨⟨_, hb7⟩, rfl⟩
                  have Hb7 := Lib.hid hb7
                  clear hE hb7
                  go_wp2_with fail
                  go_meet
                  case rel => exact ⟨by simp, Hb7⟩
                case rest =>
                  obtain ⟨rfl, HB7⟩ := hcut
                  have HB57 := Lib.hid (HB5.out.trans (HB7.out.mono HB5.out.size))
                  have x1 := Hox.out wc (HB4.out.trans (HB57.out.mono HB4.out.size))
                  have a7' := (HB7.out.cell (p := ⟨gi, i * 8 + 7, none⟩) hgi).trans a7
                  have y7' := (HB7.out.cell (p := ⟨gc, n * 8 + 7, none⟩) hgc).trans y7
                  obtain ⟨MA, hMA⟩ : ∃ MA, MA = y.M := ⟨_, rfl⟩
                  rw [← hMA] at y7'
                  have HMA := Lib.hid hMA
                  obtain ⟨nl, hnl⟩ : ∃ nl, nl = y.i.map.length := ⟨_, rfl⟩
                  rw [← hnl] at y7' Htot
                  have Hnl := Lib.hid hnl
                  clear hMA hnl
                  have cvm : IntKind.i64.wrap (m : Int) = m := IntWalk.i64_in _ (by omega)
                  have hwm : IntKind.i64.wrap ((i : Int) + (m : Int)) = ((i + m : Nat) : Int) := by rw [IntWalk.i64_in _ (by omega)]; omega
                  have hm1 : ¬ (ni : Int) ≤ ((i + m : Nat) : Int) := by omega
                  have hm2 : ¬ (2000 : Int) < (m : Int) := by omega
                  have hiN : (i : Int) < (ni : Int) := by omega
                  have hwi1 : IntKind.i64.wrap ((i : Int) + 1) = ((i + 1 : Nat) : Int) := by rw [IntWalk.i64_in _ (by omega)]; omega
                  clear a0 a7 b0 b2 b6 y4 y7
                  go_wp2_with fail
                  go_loopw [12, 13] (fun v12 v13 wl => wc = wl ∧ ∃ k : Nat, k ≤ m ∧ v13 = .int .i64 k ∧ v12 = .int .i64 (cntB y.i.map 0 (32 * k))) (fun _ v13 _ => m - (intOf v13).toNat)
                  case atStart => exact ⟨rfl, 0, by omega, rfl, rfl⟩
                  case round =>
                    obtain ⟨rfl, k, hk, rfl, rfl⟩ := hrel
                    by_cases hkm : k < m
                    · have hq := Hmw.out k hkm
                      have k0 := HIt.out wc HB57.out _ _ hq 0 (by omega)
                      have k7 := HIt.out wc HB57.out _ _ hq 7 (by omega)
                      simp only [itemCells, S.iWord, List.getElem?_cons_zero, List.getElem?_cons_succ, Nat.add_zero] at k0 k7
                      have hwk : IntKind.i64.wrap (((i + 1 : Nat) : Int) + (k : Int)) = ((i + 1 + k : Nat) : Int) := by rw [IntWalk.i64_in _ (by omega)]; omega
                      have hbd := mapW_bd y.i.map (32 * (k : Int))
                      have Hon := Lib.hid (l_ones _ hbd.1 hbd.2 wc)
                      have Hsw := Lib.hid (sum_words y.i.map k)
                      have hcb := cntB_bd y.i.map 0 (32 * k)
                      obtain ⟨cb, hcb'⟩ : ∃ cb, cb = cntB y.i.map 0 (32 * k) := ⟨_, rfl⟩
                      have hob := onesP_bd (S.mapW y.i.map (32 * (k : Int)) 32) 32
                      obtain ⟨ob, hob'⟩ : ∃ ob, ob = onesP (S.mapW y.i.map (32 * (k : Int)) 32) 32 := ⟨_, rfl⟩
                      rw [← hcb'] at hcb Hsw ⊢
                      rw [← hob'] at hob Hon Hsw
                      obtain ⟨mw, hmw⟩ : ∃ mw, mw = S.mapW y.i.map (32 * (k : Int)) 32 := ⟨_, rfl⟩
                      rw [← hmw] at k7 Hon
                      have hj0 : (0 : Int) ≤ ((i + 1 + k : Nat) : Int) := by omega
                      have hj1 : ((i + 1 + k : Nat) : Int) < (ni : Int) := by omega
                      have hcs : IntKind.i64.wrap (cb + ob) = cb + ob := IntWalk.i64_in _ (by omega)
                      clear hq hbd hcb' hob' hmw hcb hob
                      go_wp2_with fail
                      refine Hon.out.mono ?_
                      rintro e w8 ⟨rfl, rfl⟩
                      go_wp2_with fail
                      go_roundw
                      all_goals first
                        | exact ⟨⟨trivial, k + 1, by omega, by go_num, by rw [Hsw.out]⟩, by simp [intOf]; omega⟩
                        | exact ⟨trivial, k + 1, by omega, by go_num, by rw [Hsw.out]⟩
                        | (simp [intOf]; omega)
                    · have hkm2 : m = k := by omega
                      subst hkm2
                      rw [Htot.out]
                      have hnl41 : nl ≤ 40 := by rw [Hnl.out]; exact Hvo.out.ml
                      go_wp2_with fail
                      go_loopw [15] (fun v15 wl => ∃ k : Nat, k ≤ nl ∧ v15 = .int .i64 k ∧ Hid (Below wc.heap.size wc wl)) (fun v15 _ => nl - (intOf v15).toNat)
                      case atStart => exact ⟨0, by omega, rfl, Lib.hid (Below.refl _ _)⟩
                      case round =>
                        obtain ⟨k, hk, rfl, HB9⟩ := hrel
                        have HB59 := Lib.hid (HB57.out.trans (HB9.out.mono HB57.out.size))
                        have hbw := HBw.out.trans (HB59.out.mono HBw.out.size)
                        by_cases hkl : k < nl
                        · have hkm : k < y.i.map.length := by rw [← Hnl.out]; exact hkl
                          obtain ⟨bm, om, eM, hbm, hcx⟩ := (Hvo.out.mp.below hbw).at_ hkm
                          rw [← HMA.out] at eM
                          subst eM
                          obtain ⟨sv, hsv⟩ : ∃ sv, sv = y.i.map.getD k 0 := ⟨_, rfl⟩
                          rw [← hsv] at hcx
                          have hge : y.i.map[k]? = some sv := by rw [hsv]; simp [hkm]
                          have hs0 := Hr2.out sv (List.mem_of_getElem? hge)
                          obtain ⟨q, hq⟩ := Int.eq_ofNat_of_zero_le (show 0 ≤ sv / 32 by omega)
                          obtain ⟨r, hr⟩ := Int.eq_ofNat_of_zero_le (show 0 ≤ sv % 32 by omega)
                          have hqm : q < m := by
                            have := slot_word Hr1.out Hr2.out hge (q := q) (by omega)
                            rw [← Hm.out] at this
                            exact this
                          have hr32 : r < 32 := by omega
                          have hwd := Hmw.out q hqm
                          have k7 := HIt.out wr HB59.out _ _ hwd 7 (by omega)
                          simp only [itemCells, S.iWord, List.getElem?_cons_zero, List.getElem?_cons_succ] at k7
                          have hbt := mapW_bit y.i.map (32 * (q : Int)) r hr32
                          have hone : S.mapBit y.i.map (32 * (q : Int) + r) = 1 := by
                            unfold S.mapBit
                            rw [if_pos (by rw [show 32 * (q : Int) + r = sv by omega]; exact List.mem_of_getElem? hge)]
                          rw [hone] at hbt
                          have hbd := mapW_bd y.i.map (32 * (q : Int))
                          obtain ⟨mw, hmw⟩ : ∃ mw, mw = S.mapW y.i.map (32 * (q : Int)) 32 := ⟨_, rfl⟩
                          rw [← hmw] at k7 hbt hbd
                          have hp2 : (1 : Int) ≤ 2 ^ r := by have : (0 : Int) < 2 ^ r := Int.pow_pos (by omega); omega
                          have d0 : 0 ≤ mw / 2 ^ r := Int.ediv_nonneg hbd.1 (by omega)
                          have d1 : mw / 2 ^ r ≤ mw := Int.ediv_le_self _ hbd.1
                          obtain ⟨dd, hdd⟩ : ∃ dd, dd = mw / 2 ^ r := ⟨_, rfl⟩
                          rw [← hdd] at d0 d1 hbt
                          have hmk := u32_mask 1 dd 2 1 rfl rfl (by omega) d0 (by omega)
                          rw [hbt] at hmk
                          have wdd : IntKind.u32.wrap dd = dd := by rw [IntKind.wrap_u32]; omega
                          have hdd2 := hdd.symm
                          have hu : IntKind.u64.wrap (r : Int) = r := by rw [IntKind.wrap_u64]; omega
                          have ht : ((r : Int)).toNat = r := by omega
                          have tq : sv.tdiv 32 = (q : Int) := by rw [Int.tdiv_eq_ediv_of_nonneg hs0.1]; exact hq
                          have tr : sv.tmod 32 = (r : Int) := by rw [Int.tmod_eq_emod_of_nonneg hs0.1]; exact hr
                          have wq : IntKind.i64.wrap (q : Int) = q := IntWalk.i64_in _ (by omega)
                          have wr' : IntKind.i64.wrap (r : Int) = r := IntWalk.i64_in _ (by omega)
                          have dq : decide ((m : Int) ≤ (q : Int)) = false := decide_eq_false (by omega)
                          have hwi2 : IntKind.i64.wrap ((i : Int) + 1) = (i : Int) + 1 := IntWalk.i64_in _ (by omega)
                          have hwq : IntKind.i64.wrap ((i : Int) + 1 + (q : Int)) = (i : Int) + 1 + (q : Int) := IntWalk.i64_in _ (by omega)
                          have hj0 : (0 : Int) ≤ (i : Int) + 1 + (q : Int) := by omega
                          have hj1 : (i : Int) + 1 + (q : Int) < (ni : Int) := by omega
                          have htn : ((i : Int) + 1 + (q : Int)).toNat = i + 1 + q := by omega
                          clear hwi1
                          have hk0 : (0 : Int) ≤ (k : Int) := by omega
                          have hk1 : (k : Int) < (nl : Int) := by omega
                          have x1 := Hox.out wr (HB4.out.trans (HB59.out.mono HB4.out.size))
                          clear hsv hge hs0 hq hr hwd hone hbd hmw hdd hp2 hbw hbt
                          go_upto_region 33 with fail
                          go_quiet (fail)
                          go_wp2_with fail
                          exact ⟨⟨k + 1, by omega, by go_num, Lib.hid (below_drewN HB9.out _)⟩, by simp [intOf]; omega⟩
                        · have hkl2 : nl = k := by omega
                          subst hkl2
                          have hwm1 : IntKind.i64.wrap (((i + 1 : Nat) : Int) + (m : Int)) = ((i + 1 + m : Nat) : Int) := by rw [IntWalk.i64_in _ (by omega)]; omega
                          have hnn : n + 1 ≤ 300 := by omega
                          go_wp2_with fail
                          go_roundw
                          all_goals first
                            | exact ⟨n + 1, i + 1 + m, by omega, hnn, by first | rfl | go_num, by first | rfl | go_num, Lib.hid (Or.inl Hnx.out), HB59⟩
                            | exact ⟨⟨n + 1, i + 1 + m, by omega, hnn, by first | rfl | go_num, by first | rfl | go_num, Lib.hid (Or.inl Hnx.out), HB59⟩, by simp [intOf]; omega⟩
                            | (simp [intOf]; omega)
            · have hin : ni = i := by omega
              subst hin
              have hA : AtA words insts it ni n := by
                rcases HS.out with h | ⟨x, h⟩
                · exact h
                · have := h.lt
                  rw [← Hni.out] at this
                  omega
              have hd := hA.done (by rw [← Hni.out]; exact Nat.le_refl _)
              have hn7' : n = n7 := by rw [hd, Hcm.out, List.length_map, Hn7.out]
              have HBw5 := Lib.hid (HBw.out.trans (HB5.out.mono HBw.out.size))
              subst hn7'
              clear hA hd HS
              go_wp2_with fail
              refine (Hw.out _ HBw5.out).mono ?_
              rintro e w8 ⟨rfl, hb8⟩
              go_wp2_with fail
              go_ret
              exact ⟨rfl, HBw5.out.trans (hb8.mono HBw5.out.size)⟩

end Go.Proofs.YtkdalaiponchbaaDoor
