/- Walk of the law EmitItems. -/
import Derived.Test.YtkdalaiponchbaaDoorESam
import Derived.Test.YtkdalaiponchbaaDoorEWrk
import Derived.Test.YtkdalaiponchbaaDoorR24F
set_option linter.unusedVariables false
set_option linter.unusedSimpArgs false
set_option linter.unusedSectionVars false
namespace Go.Proofs.YtkdalaiponchbaaDoor
open Go.RowKit

/-- The lists of an instruction as they are given: any length. -/
structure VIn (w : World) (B : Nat) (x : VL) : Prop where
  us : Ints w B x.U x.i.uses
  mp : Ints w B x.M x.i.map
  ul : x.i.uses.length ≤ 9223372036854775807
  ml : x.i.map.length ≤ 9223372036854775807
  un : x.U = none → x.i.uses.length = 0
  mn : x.M = none → x.i.map.length = 0
  op : I64 x.i.op
  d : I64 x.i.d
  imm : I64 x.i.imm
  label : I64 x.i.label
theorem VIn.ok {w : World} {B : Nat} {x : VL} (h : VIn w B x) (h1 : x.i.uses.length ≤ 40) (h2 : x.i.map.length ≤ 40) : VOk w B x := ⟨h.us, h.mp, h1, h2, h.un, h.mn, h.op, h.d, h.imm, h.label⟩

set_option maxRecDepth 100000 in
set_option maxHeartbeats 4000000 in
theorem law_EmitItems (f : S.VFunc) (A : Option Addr) (c : Nat) (xs : List VL) (hfi : f.insts = xs.map VL.i) (w : World) (hL : LVE w) (hv : VLs w w.heap.size A xs) (hl : xs.length ≤ 9223372036854775807) (hin : ∀ x ∈ xs, VIn w w.heap.size x) (hfn : I64 f.fn)
    (W : Option Addr) (cW : Nat) (words : List Int) (hW : U32s w w.heap.size W words) (hWl : words.length ≤ 9223372036854775807) :
    Calls Tryd.prog 3 #[.agg (vfCells f (.slice A xs.length c)), .slice W words.length cW] w fun e w' => e = .returned (.bool true) ∧ Below w.heap.size w w' := by
  have hfw := fun W9 (hb : Below w.heap.size w W9) => l_few f.fn f.regs f.slots f.need f.params f.rest A c xs W9 ((hv.below hb).more hb.size) hl (fun x hx => ⟨(hin x hx).ul, (hin x hx).ml⟩)
  have hw := fun W9 (hb : Below w.heap.size w W9) => l_works W9 (hL.on hb)
  cases hfew : fewB f.slots xs with
  | false =>
    rw [hfew] at hfw
    obtain ⟨fn, regs, slots, need, params, rest, insts⟩ := f
    unfold vfCells
    simp only at *
    obtain ⟨N, hN⟩ : ∃ N : Nat, N = xs.length := ⟨_, rfl⟩
    rw [← hN] at hfw ⊢
    have Hfw := Lib.hid hfw
    have Hw := Lib.hid hw
    have hb1 : Below w.heap.size w (w.alloc (.cells #[.int .i64 fn, .int .i64 regs, .int .i64 slots, .int .i64 need, .int .i64 params, .bool rest, .slice A N c] 24)) := (Below.refl _ _).alloc (Nat.le_refl _) _
    have Hb1 := Lib.hid hb1
    clear hb1 hfw hw hN hin hv hfi hfew hW hL
    go_enter Tryd.func3, Tryd.ntmps3
    go_wp2_with fail
    refine (Hfw.out _ Hb1.out).mono ?_
    rintro e w2 ⟨rfl, hb2⟩
    have Z2 := Lib.hid (Hb1.out.trans (hb2.mono Hb1.out.size))
    clear hb2
    go_wp2_with fail
    refine (Hw.out _ Z2.out).mono ?_
    rintro e w3 ⟨rfl, hb3⟩
    go_wp2_with fail
    go_ret
    exact ⟨rfl, Z2.out.trans (hb3.mono Z2.out.size)⟩
  | true =>
    rw [hfew] at hfw
    obtain ⟨k1, k2, k3⟩ := few_all hfew
    have hok : ∀ x ∈ xs, VOk w w.heap.size x := fun x hx => (hin x hx).ok (k3 x hx).1 (k3 x hx).2
    have hokb := fun W9 (hb : Below w.heap.size w W9) x hx => ((hok x hx).below hb).more hb.size
    have hE := fun W9 (hb : Below w.heap.size w W9) => e_Emit f A c xs hfi W9 (hL.on hb) ((hv.below hb).more hb.size) (hokb W9 hb) k1 k2 hfn W cW words ((hW.below hb).more hb.size) hWl
    have hR := fun W9 (hb : Below w.heap.size w W9) => r24_Emit f A c xs hfi W9 ((hv.below hb).more hb.size) (hokb W9 hb) k1 k2 hfn W cW words ((hW.below hb).more hb.size) hWl
    have hC := fun W9 (hb : Below w.heap.size w W9) => e_Chk f A c xs hfi W9 ((hv.below hb).more hb.size) (hokb W9 hb) k1 k2
    have hD := fun W9 (hb : Below w.heap.size w W9) => r24_Chk f A c xs hfi W9 ((hv.below hb).more hb.size) (hokb W9 hb) k1
    have hlen : (S.emitItems f words).length ≤ 1000000000 := by
      unfold S.emitItems
      split
      · rename_i he
        have hc0 : S.echk f = 0 := by
          unfold S.emitE at he
          split at he
          · rename_i h; exact h.1
          · cases he
        obtain ⟨F0, F1⟩ := echk_facts hc0
        have h1 := eentry_len f
        have h2 := flat_len words f.insts (fun i hi s hs' => by
          have h9 := (einst_facts (F1 i hi).1).2.1 s hs'
          omega)
        have h3 : f.insts.length ≤ 300 := by rw [hfi, List.length_map]; exact k1
        rw [List.length_append]
        omega
      · simp
    obtain ⟨nm, hnm⟩ : ∃ nm, nm = S.emitName f words := ⟨_, rfl⟩
    obtain ⟨it, hit⟩ : ∃ it, it = S.emitItems f words := ⟨_, rfl⟩
    obtain ⟨er, her⟩ : ∃ er, er = S.emitE f words := ⟨_, rfl⟩
    obtain ⟨ck, hck⟩ : ∃ ck, ck = S.echk f := ⟨_, rfl⟩
    unfold EmitPost at hE hR
    rw [← hnm, ← hit, ← her] at hE hR
    rw [← hck] at hC hD
    rw [← hit] at hlen
    clear hnm hit her hck hokb hok k1 k2 k3 hfew hin hv hfi hW hL
    obtain ⟨ni, hni⟩ : ∃ ni, ni = it.length := ⟨_, rfl⟩
    have hsm := fun A1 A2 c1 c2 b1 b2 W9 h1 h2 => l_same nm it b1 b2 A1 A2 c1 c2 W9 h1 h2 hlen
    rw [← hni] at hE hR hsm
    obtain ⟨fn, regs, slots, need, params, rest, insts⟩ := f
    unfold vfCells at *
    simp only at *
    obtain ⟨N, hN⟩ : ∃ N : Nat, N = xs.length := ⟨_, rfl⟩
    obtain ⟨NW, hNW⟩ : ∃ NW : Nat, NW = words.length := ⟨_, rfl⟩
    rw [← hN] at hfw hE hR hC hD ⊢
    rw [← hNW] at hE hR hWl ⊢
    have Hfw := Lib.hid hfw
    have Hw := Lib.hid hw
    have HE := Lib.hid hE
    have HR := Lib.hid hR
    have HC := Lib.hid hC
    have HD := Lib.hid hD
    have Hsm := Lib.hid hsm
    have hb1 : Below w.heap.size w (w.alloc (.cells #[.int .i64 fn, .int .i64 regs, .int .i64 slots, .int .i64 need, .int .i64 params, .bool rest, .slice A N c] 24)) := (Below.refl _ _).alloc (Nat.le_refl _) _
    have hcr := heap_alloc_new w (.cells #[.int .i64 fn, .int .i64 regs, .int .i64 slots, .int .i64 need, .int .i64 params, .bool rest, .slice A N c] 24)
    have hz1 : w.heap.size < (w.alloc (.cells #[.int .i64 fn, .int .i64 regs, .int .i64 slots, .int .i64 need, .int .i64 params, .bool rest, .slice A N c] 24)).heap.size := by simp
    clear hfw hw hE hR hC hD hsm hN hNW hni hlen
    go_enter Tryd.func3, Tryd.ntmps3
    go_upto_region 1 with fail
    generalize w.alloc (.cells #[.int .i64 fn, .int .i64 regs, .int .i64 slots, .int .i64 need, .int .i64 params, .bool rest, .slice A N c] 24) = w1 at *
    have Hc := Lib.hid (fun (w9 : World) (hb : Below w1.heap.size w1 w9) => (show w9.cell? ⟨w.heap.size, 0, none⟩ = some (.int .i64 fn) ∧ w9.cell? ⟨w.heap.size, 1, none⟩ = some (.int .i64 regs) ∧ w9.cell? ⟨w.heap.size, 2, none⟩ = some (.int .i64 slots) ∧ w9.cell? ⟨w.heap.size, 3, none⟩ = some (.int .i64 need) ∧ w9.cell? ⟨w.heap.size, 4, none⟩ = some (.int .i64 params) ∧ w9.cell? ⟨w.heap.size, 5, none⟩ = some (.bool rest) ∧ w9.cell? ⟨w.heap.size, 6, none⟩ = some (.slice A N c) from by
      have e1 := (hb.block w.heap.size hz1).trans hcr
      refine ⟨?_, ?_, ?_, ?_, ?_, ?_, ?_⟩
      all_goals (rw [Lib.cell_of_heap e1]; rfl)))
    have Hb1 := Lib.hid hb1
    have Hz1 := Lib.hid hz1
    clear hb1 hcr
    obtain ⟨p0, p1, p2, p3, p4, p5, p6⟩ := Hc.out w1 (Below.refl _ _)
    go_wp2_with fail
    refine (Hfw.out _ Hb1.out).mono ?_
    rintro e w2 ⟨rfl, hb2⟩
    have Z2 := Lib.hid hb2
    clear hb2 p0 p1 p2 p3 p4 p5 p6
    obtain ⟨p0, p1, p2, p3, p4, p5, p6⟩ := Hc.out w2 Z2.out
    go_wp2_with fail
    refine (HE.out _ (Hb1.out.trans (Z2.out.mono Hb1.out.size))).mono ?_
    rintro e w3 ⟨v3, rfl, ho3, hb3⟩
    obtain ⟨A3, c3, rfl⟩ := ownsRow_form ho3
    have Z3 := Lib.hid (Z2.out.trans (hb3.mono Z2.out.size))
    have Ho3 := Lib.hid ho3
    clear ho3 hb3 p0 p1 p2 p3 p4 p5 p6
    have hbX : Below w3.heap.size w3 (w3.alloc (.cells #[.string nm, .slice A3 ni c3] 30)) := (Below.refl _ _).alloc (Nat.le_refl _) _
    have hrX := heap_alloc_new w3 (.cells #[.string nm, .slice A3 ni c3] 30)
    have hzX : w3.heap.size < (w3.alloc (.cells #[.string nm, .slice A3 ni c3] 30)).heap.size := by simp
    go_upto_region 4 with fail
    generalize w3.alloc (.cells #[.string nm, .slice A3 ni c3] 30) = w4 at *
    have Z4 := Lib.hid (Z3.out.trans (hbX.mono Z3.out.size))
    have Ho4 := Lib.hid (ownsRow_below Ho3.out hbX)
    have HrX := Lib.hid hrX
    have HzX := Lib.hid hzX
    clear hbX hrX
    obtain ⟨p0, p1, p2, p3, p4, p5, p6⟩ := Hc.out w4 Z4.out
    go_wp2_with fail
    refine (HR.out _ (Hb1.out.trans (Z4.out.mono Hb1.out.size))).mono ?_
    rintro e w5 ⟨v5, rfl, ho5, hb5⟩
    obtain ⟨A5, c5, rfl⟩ := ownsRow_form ho5
    have Z5 := Lib.hid (Z4.out.trans (hb5.mono Z4.out.size))
    have Ho5 := Lib.hid ho5
    have Ho45 := Lib.hid (ownsRow_below Ho4.out hb5)
    have HrX5 := Lib.hid ((hb5.block _ HzX.out).trans HrX.out)
    have HzX5 := Lib.hid (Nat.lt_of_lt_of_le HzX.out hb5.size)
    clear ho5 hb5 p0 p1 p2 p3 p4 p5 p6 hzX
    have hbY : Below w5.heap.size w5 (w5.alloc (.cells #[.string nm, .slice A5 ni c5] 30)) := (Below.refl _ _).alloc (Nat.le_refl _) _
    have hrY := heap_alloc_new w5 (.cells #[.string nm, .slice A5 ni c5] 30)
    have hzY : w5.heap.size < (w5.alloc (.cells #[.string nm, .slice A5 ni c5] 30)).heap.size := by simp
    go_upto_region 5 with fail
    generalize w5.alloc (.cells #[.string nm, .slice A5 ni c5] 30) = w6 at *
    have Z6 := Lib.hid (Z5.out.trans (hbY.mono Z5.out.size))
    have Hoa := Lib.hid (ownsRow_below Ho45.out hbY)
    have Hob := Lib.hid (ownsRow_below Ho5.out hbY)
    have hrX6 := (hbY.block _ HzX5.out).trans HrX5.out
    have hzX6 : w3.heap.size < w6.heap.size := Nat.lt_of_lt_of_le HzX5.out hbY.size
    have x0 : w6.cell? ⟨w3.heap.size, 0, none⟩ = some (.string nm) := by rw [Lib.cell_of_heap hrX6]; rfl
    have x1 : w6.cell? ⟨w3.heap.size, 1, none⟩ = some (.slice A3 ni c3) := by rw [Lib.cell_of_heap hrX6]; rfl
    have y0 : w6.cell? ⟨w5.heap.size, 0, none⟩ = some (.string nm) := by rw [Lib.cell_of_heap hrY]; rfl
    have y1 : w6.cell? ⟨w5.heap.size, 1, none⟩ = some (.slice A5 ni c5) := by rw [Lib.cell_of_heap hrY]; rfl
    have hz16 : w.heap.size < w6.heap.size := Nat.lt_of_lt_of_le Hz1.out Z6.out.size
    obtain ⟨p0, p1, p2, p3, p4, p5, p6⟩ := Hc.out w6 Z6.out
    have Hb6 := Lib.hid (Hb1.out.trans (Z6.out.mono Hb1.out.size))
    have HC6 := Lib.hid (fun y : Ext w6 => HC.out y.val (Hb6.out.trans (y.property.mono Hb6.out.size)))
    have HD6 := Lib.hid (fun y : Ext w6 => HD.out y.val (Hb6.out.trans (y.property.mono Hb6.out.size)))
    have Hw6 := Lib.hid (fun y : Ext w6 => Hw.out y.val (Hb6.out.trans (y.property.mono Hb6.out.size)))
    have Hs6 := Lib.hid (fun y : Ext w6 => Hsm.out A3 A5 c3 c5 _ _ y.val (ownsRow_below Hoa.out y.property) (ownsRow_below Hob.out y.property))
    clear hbY hrY hrX6
    refine wp_region_ext (by kernel_rfl) (by kernel_rfl) ?_
    have hE := ext_cells w6
    repeat (first
      | go_big_quiet_step ((first
        | (go_at_call 12; exact ext_of (Hs6.out _))
        | (go_at_call 13; exact ext_of (HC6.out _))
        | (go_at_call 14; exact ext_of (HD6.out _))
        | (go_at_call 9; exact ext_of (Hw6.out _)))))
    refine wpQuiet_nil ?_
    rintro w7 ⟨⟨_, hb7⟩, rfl⟩
    have Hb7 := Lib.hid (Hb6.out.trans (hb7.mono Hb6.out.size))
    clear hE hb7
    go_wp2_with fail
    go_ret
    exact ⟨by simp, Hb7.out⟩

end Go.Proofs.YtkdalaiponchbaaDoor
