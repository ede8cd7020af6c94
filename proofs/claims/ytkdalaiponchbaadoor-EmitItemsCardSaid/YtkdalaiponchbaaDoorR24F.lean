/- pennantref24.Items joined; pennantref24.Emit. -/
import Derived.Test.YtkdalaiponchbaaDoorR24E
import Derived.Test.YtkdalaiponchbaaDoorR24B
import Derived.Test.YtkdalaiponchbaaDoorEEmt
import Derived.Laws.ResultCell
set_option linter.unusedVariables false
set_option linter.unusedSimpArgs false
set_option linter.unusedSectionVars false
namespace Go.Proofs.YtkdalaiponchbaaDoor
open Go.RowKit

theorem reads_own {w : World} {base : Nat} {A : Option Addr} {m c n : Nat} {xs : List S.Item} (h : w.ownsRow base 49 8 (.slice A m c) n (xs.flatMap itemCells)) : Reads w w.heap.size A (xs.flatMap itemCells) := fun hp => by
  have hl : (xs.flatMap itemCells).length = n * 8 := h.1
  obtain ⟨g, rfl, _, hg2, _, hg4, _⟩ := ownsRow_at h (by omega)
  refine ⟨g, 0, rfl, hg2, fun i v hv => ?_⟩
  have hi := (List.getElem?_eq_some_iff.1 hv).1
  rw [Nat.zero_add, hg4 i (by omega), hv]

set_option maxRecDepth 100000 in
set_option maxHeartbeats 2000000 in
theorem ri_67 (d a b imm label : Int) (uses map : List Int) (U : Value) (MA : Option Addr) (cM : Nat) (W : Option Addr) (cW : Nat) (words : List Int) (w : World) (himm : I64 imm) (hM : Ints w w.heap.size MA map) (hml : map.length ≤ 1000) (hr : S.rising map = true) (hs : ∀ s ∈ map, 0 ≤ s ∧ s < 16777216) :
    Calls Tryd.prog 33 #[.agg #[.int .i64 67, .int .i64 d, .int .i64 a, .int .i64 b, .int .i64 imm, .int .i64 label, U, .slice MA map.length cM], .slice W words.length cW] w (LstP (S.eitems words ⟨67, d, a, b, imm, label, uses, map⟩) w) := by
  have HI := Lib.hid (show S.eitems words ⟨67, d, a, b, imm, label, uses, map⟩ = [S.iJump 31 (S.rt imm)] ++ S.eframe map from by simp [S.eitems])
  have hfl : (S.eframe map).length ≤ 524289 := by
    have := mapLen_small hs
    simp only [S.eframe, List.length_cons, List.length_map, List.length_range]; omega
  have Hfr := Lib.hid (fun (W : World) (hb : Below w.heap.size w W) => r_frame MA map cM W ((hM.below hb).more hb.size) hml hr hs)
  obtain ⟨fs, hfs⟩ : ∃ fs, fs = S.eframe map := ⟨_, rfl⟩
  rw [HI.out]
  rw [← hfs] at Hfr hfl ⊢
  obtain ⟨nf, hnf⟩ : ∃ nf, nf = fs.length := ⟨_, rfl⟩
  unfold LstP at Hfr
  rw [← hnf] at Hfr hfl
  have Hnf := Lib.hid hnf
  obtain ⟨nm, hnm⟩ : ∃ nm, nm = map.length := ⟨_, rfl⟩
  rw [← hnm] at Hfr ⊢
  clear HI hfs hnf hr hs hM hml hnm
  have hbx : Below w.heap.size w (w.alloc (.cells #[.int .i64 67, .int .i64 d, .int .i64 a, .int .i64 b, .int .i64 imm, .int .i64 label, U, .slice MA nm cM] 44)) := (Below.refl _ _).alloc (Nat.le_refl _) _
  have hr := heap_alloc_new w (.cells #[.int .i64 67, .int .i64 d, .int .i64 a, .int .i64 b, .int .i64 imm, .int .i64 label, U, .slice MA nm cM] 44)
  have hz : w.heap.size < (w.alloc (.cells #[.int .i64 67, .int .i64 d, .int .i64 a, .int .i64 b, .int .i64 imm, .int .i64 label, U, .slice MA nm cM] 44)).heap.size := by simp
  go_enter Tryd.func33, Tryd.ntmps33
  go_upto_region 1 with fail
  generalize w.alloc (.cells #[.int .i64 67, .int .i64 d, .int .i64 a, .int .i64 b, .int .i64 imm, .int .i64 label, U, .slice MA nm cM] 44) = wb at *
  have HC := fun (w9 : World) (hb : Below wb.heap.size wb w9) j => (show w9.cell? ⟨w.heap.size, j, none⟩ = #[.int .i64 67, .int .i64 d, .int .i64 a, .int .i64 b, .int .i64 imm, .int .i64 label, U, .slice MA nm cM][j]? by rw [Lib.cell_of_heap ((hb.block _ hz).trans hr)])
  have c0 := HC wb (Below.refl _ _) 0
  have c4 := HC wb (Below.refl _ _) 4
  simp only [List.getElem?_toArray, List.getElem?_cons_zero, List.getElem?_cons_succ] at c0 c4
  have HCC := Lib.hid HC
  clear HC hr
  go_wp2_with fail
  refine (r24_Label imm himm wb).mono ?_
  rintro e w3 ⟨rfl, hb3⟩
  have Z3 := Lib.hid hb3
  go_wp2_with fail
  refine (r_iJump 31 (S.rt imm) w3).mono ?_
  rintro e w4 ⟨rfl, hb4⟩
  have Z4 := Lib.hid (Z3.out.trans (hb4.mono Z3.out.size))
  unfold itemV S.iJump
  clear hb3 hb4 c0 c4
  go_upto_region 14 with fail
  have ho5 := lst_own (w1 := w4) (B := w.heap.size) (Nat.le_trans hbx.size Z4.out.size) [S.iJump 31 (S.rt imm)] #[.int .i64 4, .int .i64 0, .int .i64 31, .int .i64 0, .int .i64 0, .int .i64 0, .string (S.rt imm), .int .u32 0] rfl (by simp)
  have hb5 : Below wb.heap.size wb (w4.alloc (.cells #[.int .i64 4, .int .i64 0, .int .i64 31, .int .i64 0, .int .i64 0, .int .i64 0, .string (S.rt imm), .int .u32 0] 49)) := Z4.out.alloc Z4.out.size _
  generalize w4.alloc (.cells #[.int .i64 4, .int .i64 0, .int .i64 31, .int .i64 0, .int .i64 0, .int .i64 0, .string (S.rt imm), .int .u32 0] 49) = w5 at *
  have c7 := HCC.out w5 hb5 7
  simp only [List.getElem?_toArray, List.getElem?_cons_zero, List.getElem?_cons_succ] at c7
  have hb05 := hbx.trans (hb5.mono hbx.size)
  have Hf5 := Lib.hid (Hfr.out w5 hb05)
  have Ho5 := Lib.hid ho5
  have Hb05 := Lib.hid hb05
  clear ho5 hb5 hb05
  go_wp2_with fail
  refine Hf5.out.mono ?_
  rintro e w6 ⟨A6, c6, rfl, ho6, hb6⟩
  have Hrd := Lib.hid (reads_own ho6)
  have Hno := Lib.hid (fun h : A6 = none => ownsRow_none ho6 h)
  have Hfl := Lib.hid (show (fs.flatMap itemCells).length = nf * 8 by rw [flat8_len, ← Hnf.out])
  have Ho6 := Lib.hid (ownsRow_below Ho5.out hb6)
  have Hb6 := Lib.hid (Hb05.out.trans (hb6.mono Hb05.out.size))
  have hz6 := Hb6.out.size
  have hzz : w6.heap.size ≤ w6.heap.size := Nat.le_refl _
  clear ho6 hb6 c7
  go_wp2_with (at_builtin
               refine wpList_appendsN rfl (.tmp 65) (.tmp 68) _ rfl w.heap.size 49 item_info Tryd.underlying28 rfl (by decide) _ _ _ rfl Ho6.out w6.heap.size A6 nf c6 _ rfl Hfl.out Hno.out Hrd.out (cells_one fs) (by simp only [maxLen, List.length_singleton]; omega) (by simp only [List.length_singleton]; omega) hz6 ?_
               intro v' w7 ho7 hg7 hb7 _
               obtain ⟨A7, c7, rfl⟩ := ownsRow_form ho7)
  go_ret
  refine ⟨A7, c7, ?_, ?_, Hb6.out.trans hb7⟩
  · show Ending.returned (.slice A7 (1 + nf) c7) = _
    rw [List.length_cons, ← Hnf.out, Nat.add_comm nf 1]
  · have h9 := ho7
    rw [← List.flatMap_append] at h9
    rw [List.length_cons, ← Hnf.out, Nat.add_comm nf 1]
    exact h9

theorem r_Items (i : S.VInst) (U : Value) (MA : Option Addr) (cM : Nat) (W : Option Addr) (cW : Nat) (words : List Int) (w : World) (hop : (1 ≤ i.op ∧ i.op ≤ 31) ∨ (64 ≤ i.op ∧ i.op ≤ 74)) (hlab : I64 i.label) (himm : I64 i.imm) (hM : Ints w w.heap.size MA i.map) (hml : i.map.length ≤ 1000) (hr : S.rising i.map = true) (hs : ∀ s ∈ i.map, 0 ≤ s ∧ s < 16777216) (hslot : i.op = 73 ∨ i.op = 74 → 0 ≤ i.imm ∧ i.imm ≤ 16777216) (hW : U32s w w.heap.size W words) (hWl : words.length ≤ 9223372036854775807) (hdata : i.op = 71 → 0 ≤ i.imm ∧ i.imm < words.length) :
    Calls Tryd.prog 33 #[.agg (viCells i U (.slice MA i.map.length cM)), .slice W words.length cW] w (LstP (S.eitems words i) w) := by
  obtain ⟨op, d, a, b, imm, label, uses, map⟩ := i
  simp only at *
  unfold viCells
  have ho : (1 ≤ op ∧ op < 26) ∨ (26 ≤ op ∧ op ≤ 31) ∨ op = 64 ∨ op = 65 ∨ op = 66 ∨ op = 67 ∨ op = 68 ∨ op = 69 ∨ op = 70 ∨ op = 71 ∨ op = 72 ∨ op = 73 ∨ op = 74 := by omega
  rcases ho with h | h | rfl | rfl | rfl | rfl | rfl | rfl | rfl | rfl | rfl | rfl | rfl
  · exact ri_plain op d a b imm label uses map U _ W cW words w h
  · exact ri_branch op d a b imm label uses map U _ W cW words w h hlab
  · by_cases hda : d = a
    · exact ri_64e d a b imm label uses map U _ W cW words w hda
    · exact ri_64n d a b imm label uses map U _ W cW words w hda
  · exact ri_65 d a b imm label uses map U _ W cW words w hlab
  · exact ri_66 d a b imm label uses map U _ W cW words w hlab
  · exact ri_67 d a b imm label uses map U MA cM W cW words w himm hM hml hr hs
  · by_cases h0 : 0 ≤ imm
    · exact ri_68p d a b imm label uses map U _ W cW words w himm h0
    · exact ri_68n d a b imm label uses map U _ W cW words w (by omega)
  · exact ri_69 d a b imm label uses map U _ W cW words w
  · exact ri_70 d a b imm label uses map U _ W cW words w himm
  · exact ri_71 d a b imm label uses map U _ W cW words w hW (hdata rfl).1 (hdata rfl).2 hWl
  · exact ri_72 d a b imm label uses map U _ W cW words w himm
  · exact ri_73 d a b imm label uses map U _ W cW words w (hslot (Or.inl rfl)).1 (hslot (Or.inl rfl)).2
  · exact ri_74 d a b imm label uses map U _ W cW words w (hslot (Or.inr rfl)).1 (hslot (Or.inr rfl)).2

def CelF (w W : World) (fn regs slots need params : Int) (rest : Bool) (I : Value) : Prop := W.cell? ⟨w.heap.size, 0, none⟩ = some (.int .i64 fn) ∧ W.cell? ⟨w.heap.size, 1, none⟩ = some (.int .i64 regs) ∧ W.cell? ⟨w.heap.size, 2, none⟩ = some (.int .i64 slots) ∧ W.cell? ⟨w.heap.size, 3, none⟩ = some (.int .i64 need) ∧ W.cell? ⟨w.heap.size, 4, none⟩ = some (.int .i64 params) ∧ W.cell? ⟨w.heap.size, 5, none⟩ = some (.bool rest) ∧ W.cell? ⟨w.heap.size, 6, none⟩ = some I ∧ W.cell? ⟨w.heap.size + 1, 0, none⟩ = some (.string ⟨#[]⟩) ∧ W.cell? ⟨w.heap.size + 1, 1, none⟩ = some (.slice none 0 0) ∧ W.frozen? ⟨w.heap.size + 1, 0, none⟩ = false ∧ W.frozen? ⟨w.heap.size + 1, 1, none⟩ = false

set_option maxRecDepth 100000 in
set_option maxHeartbeats 4000000 in
theorem r24_Emit (f : S.VFunc) (A : Option Addr) (c : Nat) (xs : List VL) (hfi : f.insts = xs.map VL.i) (w : World) (hv : VLs w w.heap.size A xs) (hok : ∀ x ∈ xs, VOk w w.heap.size x) (hlen : xs.length ≤ 300) (hs : f.slots ≤ 60000) (hfn : I64 f.fn)
    (W : Option Addr) (cW : Nat) (words : List Int) (hW : U32s w w.heap.size W words) (hWl : words.length ≤ 9223372036854775807) :
    Calls Tryd.prog 11 #[.agg (vfCells f (.slice A xs.length c)), .slice W words.length cW] w (EmitPost f words w) := by
  have hck := fun W hb => r24_Chk f A c xs hfi W (hv.below hb |>.more (Below.size hb)) (fun x hx => ((hok x hx).below hb).more (Below.size hb)) hlen
  obtain ⟨q, hq⟩ : ∃ q, q = S.echk f := ⟨_, rfl⟩
  rw [← hq] at hck
  have Hck := Lib.hid hck
  clear hck
  have Hq := Lib.hid hq
  have hq02 := echk_02 f
  rw [← hq] at hq02
  clear hq
  obtain ⟨fn, regs, slots, need, params, rest, insts⟩ := f
  unfold vfCells at *
  simp only at hfi hs hfn
  obtain ⟨N, hN⟩ : ∃ N : Nat, N = xs.length := ⟨_, rfl⟩
  obtain ⟨NW, hNW⟩ : ∃ NW : Nat, NW = words.length := ⟨_, rfl⟩
  rw [← hN] at hlen Hck ⊢
  have Hit := Lib.hid (fun (x : VL) (hx : x ∈ xs) (hx2 : S.einst slots x.i = true ∧ ((1 ≤ x.i.op ∧ x.i.op ≤ 31) ∨ (64 ≤ x.i.op ∧ x.i.op ≤ 74))) (hd : S.dataOk words x.i = true) (W9 : World) (hb : Below w.heap.size w W9) => (show Calls Tryd.prog 33 #[.agg (viCells x.i (.slice x.U x.i.uses.length x.cu) (.slice x.M x.i.map.length x.cm)), .slice W words.length cW] W9 (LstP (S.eitems words x.i) W9) from by
    obtain ⟨e1, e2, e3⟩ := einst_facts hx2.1
    have hx3 := hok x hx
    exact r_Items x.i _ x.M x.cm W cW words W9 hx2.2 hx3.label hx3.imm ((hx3.mp.below hb).more hb.size) (by have := hx3.ml; omega) e1 (fun s hs' => by have h9 := e2 s hs'; omega) (fun h => by have h9 := e3 h; omega) ((hW.below hb).more hb.size) hWl (fun h => by
      unfold S.dataOk at hd
      have := of_decide_eq_true hd
      omega)))
  rw [← hNW] at hWl Hit ⊢
  have HN := Lib.hid hN
  have HNW := Lib.hid hNW
  have HNl := Lib.hid (show insts.length = N by rw [hfi, List.length_map, ← hN])
  have Hins := Lib.hid (show ∀ (k : Nat) (x : VL), xs[k]? = some x → insts[k]? = some x.i from fun k x hx => by rw [hfi, List.getElem?_map, hx]; rfl)
  have Hv := Lib.hid hv
  have Hok := Lib.hid hok
  clear hv hok hW hN hNW hfi
  have Hb2 := Lib.hid (show Below w.heap.size w ((w.alloc (.cells #[.int .i64 fn, .int .i64 regs, .int .i64 slots, .int .i64 need, .int .i64 params, .bool rest, .slice A N c] 24)).alloc (.cells #[.string ⟨#[]⟩, .slice none 0 0] 30)) from ((Below.refl _ _).alloc (Nat.le_refl _) _).alloc (by simp) _)
  have hb22 : ((w.alloc (.cells #[.int .i64 fn, .int .i64 regs, .int .i64 slots, .int .i64 need, .int .i64 params, .bool rest, .slice A N c] 24)).alloc (.cells #[.string ⟨#[]⟩, .slice none 0 0] 30)).heap.size = w.heap.size + 2 := by simp
  have hc2 := two_cells w (.cells #[.int .i64 fn, .int .i64 regs, .int .i64 slots, .int .i64 need, .int .i64 params, .bool rest, .slice A N c] 24) (.cells #[.string ⟨#[]⟩, .slice none 0 0] 30)
  obtain ⟨W0, hW0⟩ : ∃ W0, W0 = ((w.alloc (.cells #[.int .i64 fn, .int .i64 regs, .int .i64 slots, .int .i64 need, .int .i64 params, .bool rest, .slice A N c] 24)).alloc (.cells #[.string ⟨#[]⟩, .slice none 0 0] 30)) := ⟨_, rfl⟩
  rw [← hW0] at Hb2 hb22 hc2
  have Hc := Lib.hid (fun (w1 : World) (hb : Below W0.heap.size W0 w1) => (show CelF w w1 fn regs slots need params rest (.slice A N c) from by
    have e1 := (hb.block w.heap.size (by omega)).trans hc2.1
    have e2 := (hb.block (w.heap.size + 1) (by omega)).trans hc2.2
    refine ⟨?_, ?_, ?_, ?_, ?_, ?_, ?_, ?_, ?_, Lib.frozen_of_heap e2 0, Lib.frozen_of_heap e2 1⟩
    all_goals first
      | (rw [Lib.cell_of_heap e1]; rfl)
      | (rw [Lib.cell_of_heap e2]; rfl)))
  have Hbk := Lib.hid (fun (w1 : World) (hb : Below W0.heap.size W0 w1) => (hb.block (w.heap.size + 1) (by omega)).trans hc2.2)
  have Hb22 := Lib.hid hb22
  clear hb22 hc2
  go_enter Tryd.func11, Tryd.ntmps11
  go_upto_region 1 with fail
  rw [← hW0]
  clear hW0
  obtain ⟨p0, p1, p2, p3, p4, p5, p6, o0, o1, g0, g1⟩ := Hc.out W0 (Below.refl _ _)
  have hck0 := Lib.hid (Hck.out W0 Hb2.out)
  go_wp2_with fail
  refine hck0.out.mono ?_
  rintro e w3 ⟨rfl, hb3⟩
  have Z3 := Lib.hid hb3
  clear hck0 hb3 p0 p1 p2 p3 p4 p5 p6 o0 o1 g0 g1
  obtain ⟨p0, p1, p2, p3, p4, p5, p6, o0, o1, g0, g1⟩ := Hc.out w3 Z3.out
  rcases hq02 with hq0 | hq2
  · subst hq0
    obtain ⟨F0, F1⟩ := echk_facts (f := ⟨fn, regs, slots, need, params, rest, insts⟩) Hq.out.symm
    have HF1 := Lib.hid F1
    have hfn0 : 0 ≤ fn := F0.2.2.2.2.2
    have HF0 := Lib.hid F0
    clear F0 F1
    go_wp2_with fail
    clear p0 p1 p2 p3 p4 p5 p6 o0 o1 g0 g1
    go_loopw [6] (fun v6 wl => w3 = wl ∧ ∃ k : Nat, k ≤ N ∧ v6 = .int .i64 k ∧ Hid (∀ i ∈ insts.take k, S.dataOk words i = true)) (fun v6 _ => N - (intOf v6).toNat)
    case atStart => exact ⟨rfl, 0, by omega, rfl, Lib.hid (by simp)⟩
    case round =>
      obtain ⟨rfl, k, hk, rfl, HD⟩ := hrel
      obtain ⟨p0, p1, p2, p3, p4, p5, p6, o0, o1, g0, g1⟩ := Hc.out w3 Z3.out
      by_cases hlt : k < N
      · have hkx : k < xs.length := by rw [← HN.out]; exact hlt
        have h3r := Hb2.out.trans (Z3.out.mono Hb2.out.size)
        obtain ⟨b, off, x, hAe, hbB, hge, hVA⟩ := ((Hv.out.below h3r)).at_ hkx
        rw [hAe] at p6
        have Hmem := Lib.hid (List.mem_of_getElem? (Hins.out k x hge))
        have Hil := Lib.hid ((mv_split insts k x.i (Hins.out k x hge)).2)
        have H3r := Lib.hid h3r
        obtain ⟨q0, q1, q2, q3, q4, q5, q6, q7⟩ := hVA
        clear hge h3r
        cases hda : S.dataOk words x.i with
        | false =>
          have Hda := Lib.hid hda
          have h71 : x.i.op = 71 ∧ (x.i.imm < 0 ∨ (NW : Int) ≤ x.i.imm) := by
            unfold S.dataOk at hda
            have := of_decide_eq_false hda
            rw [HNW.out]
            exact Classical.not_not.1 this
          obtain ⟨h71, h72⟩ := h71
          rw [h71] at q0
          clear hda h71
          have HE := Lib.hid (emitE_data (f := ⟨fn, regs, slots, need, params, rest, insts⟩) (words := words) Hmem.out Hda.out)
          have HB := Lib.hid (emit_bad HE.out)
          have h72' : x.i.imm < 0 ∨ (0 ≤ x.i.imm ∧ (NW : Int) ≤ x.i.imm) := by omega
          clear h72
          rcases h72' with h72 | ⟨h72, h73⟩
          all_goals
            go_wp2_with fail
            (try simp only [Exit.inBlock, Exit.then])
            refine bodyPost_ret (v := .tuple #[.agg #[.string ⟨#[]⟩, .slice none 0 0], .int .i64 2]) (by rw [results_cell_tmp rfl]; go_simp) rfl ⟨.slice none 0 0, ?_, ?_, ?_⟩
            · rw [HB.out.1, HE.out]; rfl
            · rw [HB.out.2]; exact World.ownsRow_nil _ _ _ _
            · exact (H3r.out.setCell (p := ⟨w.heap.size + 1, 0, none⟩) (by show w.heap.size ≤ w.heap.size + 1; omega) _).setCell (p := ⟨w.heap.size + 1, 1, none⟩) (by show w.heap.size ≤ w.heap.size + 1; omega) _
        | true =>
          have HD2 : Hid (∀ i ∈ insts.take (k + 1), S.dataOk words i = true) := Lib.hid (fun i hi => by
            rw [Hil.out] at hi
            rcases List.mem_append.1 hi with hi | hi
            · exact HD.out i hi
            · have : i = x.i := by simpa using hi
              rw [this]; exact hda)
          have hw : ¬ x.i.op = 71 ∨ (x.i.op = 71 ∧ 0 ≤ x.i.imm ∧ x.i.imm < (NW : Int)) := by
            unfold S.dataOk at hda
            have := of_decide_eq_true hda
            have := HNW.out
            omega
          clear hda
          rcases hw with hw | ⟨hw, hw1, hw2⟩
          · have hne := int_bne hw
            go_wp2_with fail
            go_roundw
            case rel => exact ⟨trivial, k + 1, by omega, by go_num, HD2⟩
            case measure => simp [intOf]; omega
          · rw [hw] at q0
            have n1 : ¬ x.i.imm < 0 := by omega
            have n2 : ¬ (NW : Int) ≤ x.i.imm := by omega
            clear hw
            go_wp2_with fail
            go_roundw
            case rel => exact ⟨trivial, k + 1, by omega, by go_num, HD2⟩
            case measure => simp [intOf]; omega
      · have hkN : N = k := by omega
        subst hkN
        have ht : insts.take N = insts := by rw [← HNl.out, List.take_length]
        rw [ht] at HD
        have HE := Lib.hid (emitE_ok (f := ⟨fn, regs, slots, need, params, rest, insts⟩) (words := words) Hq.out.symm HD.out)
        have HG := Lib.hid (emit_good HE.out)
        have hd := r24_Digits fn hfn0 hfn.2 w3
        have hl := itoa_len fn
        have Ho := Lib.hid (str_app [102] (S.itoa fn))
        have Hk := Lib.hid (str_app [107] (S.itoa fn))
        have Hf := Lib.hid (str_app [102, 117, 110] (S.itoa fn))
        have Hno := Lib.hid (show S.outer fn = ⟨([102] ++ S.itoa fn).toArray⟩ from rfl)
        have Hnk := Lib.hid (show S.inner fn = ⟨([107] ++ S.itoa fn).toArray⟩ from rfl)
        have Hnf := Lib.hid (show S.lab [102, 117, 110] fn = ⟨([102, 117, 110] ++ S.itoa fn).toArray⟩ from rfl)
        generalize S.itoa fn = lf at *
        have Hd := Lib.hid hd
        clear hd ht
        go_wp2_with fail
        refine Hd.out.mono ?_
        rintro e w4 ⟨rfl, hb4⟩
        have Z4 := Lib.hid (Z3.out.trans (hb4.mono Z3.out.size))
        clear hb4 p0 p1 p2 p3 p4 p5 p6 o0 o1 g0 g1
        cases hrest : rest with
        | true =>
          subst hrest
          obtain ⟨p0, p1, p2, p3, p4, p5, p6, o0, o1, g0, g1⟩ := Hc.out w4 Z4.out
          have hcv : IntKind.u32.wrap (params - 1) = S.u32 (params - 1) := by rw [IntKind.wrap_u32]; rfl
          have hu0 : 0 ≤ S.u32 (params - 1) ∧ S.u32 (params - 1) ≤ 4294967295 := by unfold S.u32; omega
          have hld := fun W => r_Load 3 (S.u32 (params - 1)) hu0.1 hu0.2 W
          have hel := eload_len 3 (S.u32 (params - 1))
          obtain ⟨es, hes⟩ : ∃ es, es = S.eload 3 (S.u32 (params - 1)) := ⟨_, rfl⟩
          rw [← hes] at hld hel
          obtain ⟨ne, hne⟩ : ∃ ne, ne = es.length := ⟨_, rfl⟩
          unfold LstP at hld
          rw [← hne] at hld hel
          have Hfl_es := Lib.hid (show (es.flatMap itemCells).length = ne * 8 by rw [flat8_len, hne])
          have Hes := Lib.hid hes
          have Hne := Lib.hid hne
          have Hld_es := Lib.hid hld
          clear hld hes hne hu0
          have hwp : IntKind.i64.wrap (params - 1) = params - 1 := IntWalk.i64_in _ (by
            have h9 : params ≤ 16777216 := HF0.out.2.2.2.1
            have h5 : ¬((true : Bool) = true ∧ params < 1) := HF0.out.2.2.2.2.1
            have h6 : ¬ params < 1 := fun h => h5 ⟨rfl, h⟩
            omega)
          go_upto_region 15 with fail
          have hol : (w4.alloc (.cells #[.int .i64 2, .int .i64 0, .int .i64 0, .int .i64 0, .int .i64 0, .int .i64 0, .string ((⟨#[102]⟩ : ByteArray) ++ ⟨lf.toArray⟩), .int .u32 0] 49)).ownsRow W0.heap.size 49 8 (.slice (some ⟨w4.heap.size, 0, none⟩) 1 1) 1 ([S.iLabel (S.outer fn)].flatMap itemCells) := lst_own (w1 := w4) (B := W0.heap.size) Z4.out.size [S.iLabel (S.outer fn)] #[.int .i64 2, .int .i64 0, .int .i64 0, .int .i64 0, .int .i64 0, .int .i64 0, .string ((⟨#[102]⟩ : ByteArray) ++ ⟨lf.toArray⟩), .int .u32 0] (by simp only [List.flatMap_cons, List.flatMap_nil, itemCells, S.iLabel, Hno.out, ← Ho.out]; rfl) (by simp)
          have hbl : Below w4.heap.size w4 (w4.alloc (.cells #[.int .i64 2, .int .i64 0, .int .i64 0, .int .i64 0, .int .i64 0, .int .i64 0, .string ((⟨#[102]⟩ : ByteArray) ++ ⟨lf.toArray⟩), .int .u32 0] 49)) := (Below.refl _ _).alloc (Nat.le_refl _) _
          have Z11 := Lib.hid (Z4.out.trans (hbl.mono Z4.out.size))
          have HO11 := Lib.hid hol
          clear hol hbl
          generalize w4.alloc (.cells #[.int .i64 2, .int .i64 0, .int .i64 0, .int .i64 0, .int .i64 0, .int .i64 0, .string ((⟨#[102]⟩ : ByteArray) ++ ⟨lf.toArray⟩), .int .u32 0] 49) = w11 at *
          clear p0 p1 p2 p3 p4 p5 p6 o0 o1 g0 g1
          go_wp2_with fail
          refine ((Hld_es.out w11)).mono ?_
          rintro e w12 ⟨A12, c12, rfl, ho, hb⟩
          have Hrd := Lib.hid (reads_own ho)
          have Hnn := Lib.hid (fun h : A12 = none => ownsRow_none ho h)
          have HO12 := Lib.hid (ownsRow_below HO11.out hb)
          have Z12 := Lib.hid (Z11.out.trans (hb.mono Z11.out.size))
          have hzk := Z12.out.size
          clear ho hb
          go_wp2_with (at_builtin
                       refine wpList_appendsN rfl (.tmp 64) (.tmp 67) _ rfl W0.heap.size 49 item_info Tryd.underlying28 rfl (by decide) _ _ _ rfl HO12.out w12.heap.size A12 ne c12 _ rfl Hfl_es.out Hnn.out Hrd.out (cells_one es) (by (try simp only [maxLen, List.length_cons, List.length_nil]); omega) (by (try simp only [List.length_cons, List.length_nil]); omega) hzk ?_
                       intro v' w13 ho7 hg7 hb7 _
                       obtain ⟨A13, c13, rfl⟩ := ownsRow_form ho7
                       rw [← List.flatMap_append] at ho7
                       have HO13 := Lib.hid ho7
                       have Z13 := Lib.hid (Z12.out.trans hb7)
                       obtain ⟨p0, p1, p2, p3, p4, p5, p6, o0, o1, g0, g1⟩ := Hc.out w13 Z13.out
                       clear ho7 hg7 hb7)
          clear hzk
          clear Hrd Hnn
          go_wp2_with fail
          clear p0 p1 p2 p3 p4 p5 p6 o0 o1 g0 g1
          refine (r24_Label 103 (by unfold I64; decide) w13).mono ?_
          rintro e w14 ⟨rfl, hb⟩
          have Z14 := Lib.hid (Z13.out.trans (hb.mono Z13.out.size))
          have HO14 := Lib.hid (ownsRow_below HO13.out hb)
          clear hb
          have hbl : Below w14.heap.size w14 (w14.alloc (.cells #[.int .i64 3, .int .i64 28, .int .i64 0, .int .i64 2, .int .i64 3, .int .i64 0, .string (S.rt 103), .int .u32 0, .int .i64 2, .int .i64 0, .int .i64 0, .int .i64 0, .int .i64 0, .int .i64 0, .string ((⟨#[107]⟩ : ByteArray) ++ ⟨lf.toArray⟩), .int .u32 0] 49)) := (Below.refl _ _).alloc (Nat.le_refl _) _
          have hol := lst_own (w1 := w14) (B := w14.heap.size) (Nat.le_refl _) [S.iBranch 28 2 3 (S.rt 103), S.iLabel (S.inner fn)] #[.int .i64 3, .int .i64 28, .int .i64 0, .int .i64 2, .int .i64 3, .int .i64 0, .string (S.rt 103), .int .u32 0, .int .i64 2, .int .i64 0, .int .i64 0, .int .i64 0, .int .i64 0, .int .i64 0, .string ((⟨#[107]⟩ : ByteArray) ++ ⟨lf.toArray⟩), .int .u32 0] (by simp only [List.flatMap_cons, List.flatMap_nil, itemCells, S.iLabel, S.iBranch, Hnk.out, ← Hk.out]; rfl) (by simp)
          have Hrd := Lib.hid (reads_own hol)
          have HO15 := Lib.hid (ownsRow_below HO14.out hbl)
          have Z15 := Lib.hid (Z14.out.trans (hbl.mono Z14.out.size))
          have hzk := Z15.out.size
          clear hbl hol
          go_wp2_with (at_builtin
                       refine wpList_appendsN rfl (.tmp 69) (.tmp 77) _ rfl W0.heap.size 49 item_info Tryd.underlying28 rfl (by decide) _ _ _ rfl HO15.out (w14.alloc (.cells #[.int .i64 3, .int .i64 28, .int .i64 0, .int .i64 2, .int .i64 3, .int .i64 0, .string (S.rt 103), .int .u32 0, .int .i64 2, .int .i64 0, .int .i64 0, .int .i64 0, .int .i64 0, .int .i64 0, .string ((⟨#[107]⟩ : ByteArray) ++ ⟨lf.toArray⟩), .int .u32 0] 49)).heap.size (some ⟨w14.heap.size, 0, none⟩) 2 2 _ rfl (flat8_len [S.iBranch 28 2 3 (S.rt 103), S.iLabel (S.inner fn)]) (fun h => by cases h) Hrd.out (cells_one [S.iBranch 28 2 3 (S.rt 103), S.iLabel (S.inner fn)]) (by (try simp only [maxLen, List.length_cons, List.length_nil]); omega) (by (try simp only [List.length_cons, List.length_nil]); omega) hzk ?_
                       intro v' w16 ho7 hg7 hb7 _
                       obtain ⟨A16, c16, rfl⟩ := ownsRow_form ho7
                       rw [← List.flatMap_append] at ho7
                       have HO16 := Lib.hid ho7
                       have Z16 := Lib.hid (Z15.out.trans hb7)
                       obtain ⟨p0, p1, p2, p3, p4, p5, p6, o0, o1, g0, g1⟩ := Hc.out w16 Z16.out
                       clear ho7 hg7 hb7)
          clear hzk
          clear Hrd
          go_wp2_with fail
          clear p0 p1 p2 p3 p4 p5 p6 o0 o1 g0 g1
          refine ((Hld_es.out w16)).mono ?_
          rintro e w17 ⟨A17, c17, rfl, ho, hb⟩
          have Hrd := Lib.hid (reads_own ho)
          have Hnn := Lib.hid (fun h : A17 = none => ownsRow_none ho h)
          have HO17 := Lib.hid (ownsRow_below HO16.out hb)
          have Z17 := Lib.hid (Z16.out.trans (hb.mono Z16.out.size))
          have hzk := Z17.out.size
          clear ho hb
          go_wp2_with (at_builtin
                       refine wpList_appendsN rfl (.tmp 81) (.tmp 84) _ rfl W0.heap.size 49 item_info Tryd.underlying28 rfl (by decide) _ _ _ rfl HO17.out w17.heap.size A17 ne c17 _ rfl Hfl_es.out Hnn.out Hrd.out (cells_one es) (by (try simp only [maxLen, List.length_cons, List.length_nil]); omega) (by (try simp only [List.length_cons, List.length_nil]); omega) hzk ?_
                       intro v' w18 ho7 hg7 hb7 _
                       obtain ⟨A18, c18, rfl⟩ := ownsRow_form ho7
                       rw [← List.flatMap_append] at ho7
                       have HO18 := Lib.hid ho7
                       have Z18 := Lib.hid (Z17.out.trans hb7)
                       obtain ⟨p0, p1, p2, p3, p4, p5, p6, o0, o1, g0, g1⟩ := Hc.out w18 Z18.out
                       clear ho7 hg7 hb7)
          clear hzk
          clear Hrd Hnn
          go_wp2_with fail
          clear p0 p1 p2 p3 p4 p5 p6 o0 o1 g0 g1
          refine (r24_Label 101 (by unfold I64; decide) w18).mono ?_
          rintro e w19 ⟨rfl, hb⟩
          have Z19 := Lib.hid (Z18.out.trans (hb.mono Z18.out.size))
          have HO19 := Lib.hid (ownsRow_below HO18.out hb)
          clear hb
          go_wp2_with fail
          refine (r_iJump 31 (S.rt 101) w19).mono ?_
          rintro e w20 ⟨rfl, hb⟩
          have Z20 := Lib.hid (Z19.out.trans (hb.mono Z19.out.size))
          have HO20 := Lib.hid (ownsRow_below HO19.out hb)
          clear hb
          unfold itemV S.iJump
          have hbl : Below w20.heap.size w20 (w20.alloc (.cells #[.int .i64 4, .int .i64 0, .int .i64 31, .int .i64 0, .int .i64 0, .int .i64 0, .string (S.rt 101), .int .u32 0] 49)) := (Below.refl _ _).alloc (Nat.le_refl _) _
          have hol := lst_own (w1 := w20) (B := w20.heap.size) (Nat.le_refl _) [S.iJump 31 (S.rt 101)] #[.int .i64 4, .int .i64 0, .int .i64 31, .int .i64 0, .int .i64 0, .int .i64 0, .string (S.rt 101), .int .u32 0] (rfl) (by simp)
          have Hrd := Lib.hid (reads_own hol)
          have HO21 := Lib.hid (ownsRow_below HO20.out hbl)
          have Z21 := Lib.hid (Z20.out.trans (hbl.mono Z20.out.size))
          have hzk := Z21.out.size
          clear hbl hol
          go_wp2_with (at_builtin
                       refine wpList_appendsN rfl (.tmp 86) (.tmp 89) _ rfl W0.heap.size 49 item_info Tryd.underlying28 rfl (by decide) _ _ _ rfl HO21.out (w20.alloc (.cells #[.int .i64 4, .int .i64 0, .int .i64 31, .int .i64 0, .int .i64 0, .int .i64 0, .string (S.rt 101), .int .u32 0] 49)).heap.size (some ⟨w20.heap.size, 0, none⟩) 1 1 _ rfl (flat8_len [S.iJump 31 (S.rt 101)]) (fun h => by cases h) Hrd.out (cells_one [S.iJump 31 (S.rt 101)]) (by (try simp only [maxLen, List.length_cons, List.length_nil]); omega) (by (try simp only [List.length_cons, List.length_nil]); omega) hzk ?_
                       intro v' w22 ho7 hg7 hb7 _
                       obtain ⟨A22, c22, rfl⟩ := ownsRow_form ho7
                       rw [← List.flatMap_append] at ho7
                       have HO22 := Lib.hid ho7
                       have Z22 := Lib.hid (Z21.out.trans hb7)
                       obtain ⟨p0, p1, p2, p3, p4, p5, p6, o0, o1, g0, g1⟩ := Hc.out w22 Z22.out
                       clear ho7 hg7 hb7)
          clear hzk
          clear Hrd
          go_wp2_with fail
          clear p0 p1 p2 p3 p4 p5 p6 o0 o1 g0 g1
          have hEb : (((([S.iLabel (S.outer fn)] ++ es) ++ [S.iBranch 28 2 3 (S.rt 103), S.iLabel (S.inner fn)]) ++ es) ++ [S.iJump 31 (S.rt 101)]) = S.eentry ⟨fn, regs, slots, need, params, true, insts⟩ := by
            rw [Hes.out]
            simp [S.eentry]
          obtain ⟨eb, heb⟩ : ∃ eb, eb = S.eentry ⟨fn, regs, slots, need, params, true, insts⟩ := ⟨_, rfl⟩
          rw [← heb] at hEb
          have Heb := Lib.hid heb
          have HOz := HO22.out
          rw [hEb] at HOz
          have HOZ := Lib.hid HOz
          clear hEb heb HOz
          go_loopw [10, 11] (fun v10 v11 wl => ∃ k : Nat, k ≤ N ∧ v11 = .int .i64 k ∧ (∃ A9 n9 c9, v10 = .slice A9 n9 c9 ∧ n9 ≤ 20 + 2000 * k ∧ Hid (wl.ownsRow W0.heap.size 49 8 (.slice A9 n9 c9) n9 ((eb ++ (insts.take k).flatMap (S.eitems words)).flatMap itemCells))) ∧ Hid (Below W0.heap.size W0 wl)) (fun _ v11 _ => N - (intOf v11).toNat)
          case atStart => exact ⟨0, by omega, rfl, ⟨_, _, _, rfl, by omega, Lib.hid (by simpa using HOZ.out)⟩, Z22⟩
          case round =>
            obtain ⟨k, hk, rfl, ⟨A9, n9, c9, rfl, hn9, HO⟩, HB⟩ := hrel
            obtain ⟨p0, p1, p2, p3, p4, p5, p6, o0, o1, g0, g1⟩ := Hc.out wr HB.out
            have h3r := Hb2.out.trans (HB.out.mono Hb2.out.size)
            by_cases hlt : k < N
            · have hkx : k < xs.length := by rw [← HN.out]; exact hlt
              obtain ⟨b, off, x, hAe, hbB, hge, hVA⟩ := ((Hv.out.below h3r)).at_ hkx
              rw [hAe] at p6
              have hmi := List.mem_of_getElem? (Hins.out k x hge)
              have Hil := Lib.hid ((mv_split insts k x.i (Hins.out k x hge)).2)
              have hit := Hit.out x (List.mem_of_getElem? hge) (HF1.out x.i hmi) (HD.out x.i hmi) wr h3r
              have hel := eitems_len words x.i (fun s hs' => by
                have h9 := (einst_facts (HF1.out x.i hmi).1).2.1 s hs'
                have h10 : s < slots := h9.2
                omega)
              obtain ⟨ei, hei⟩ : ∃ ei, ei = S.eitems words x.i := ⟨_, rfl⟩
              rw [← hei] at hit hel
              obtain ⟨ni, hni⟩ : ∃ ni, ni = ei.length := ⟨_, rfl⟩
              unfold LstP viCells at hit
              rw [← hni] at hit hel
              have Hfl := Lib.hid (show (ei.flatMap itemCells).length = ni * 8 by rw [flat8_len, hni])
              have Hei := Lib.hid hei
              have Hhit := Lib.hid hit
              obtain ⟨q0, q1, q2, q3, q4, q5, q6, q7⟩ := hVA
              clear hge h3r hmi hit hei hni hAe
              go_wp2_with fail
              refine Hhit.out.mono ?_
              rintro e w6 ⟨A6, c6, rfl, ho, hb⟩
              have Hrd := Lib.hid (reads_own ho)
              have Hnn := Lib.hid (fun h : A6 = none => ownsRow_none ho h)
              have HO6 := Lib.hid (ownsRow_below HO.out hb)
              have Z6 := Lib.hid (HB.out.trans (hb.mono HB.out.size))
              have hzk := Z6.out.size
              clear ho hb p0 p1 p2 p3 p4 p5 p6 o0 o1 g0 g1 q0 q1 q2 q3 q4 q5 q6 q7
              go_wp2_with (at_builtin
                           refine wpList_appendsN rfl (.tmp 125) (.tmp 132) _ rfl W0.heap.size 49 item_info Tryd.underlying28 rfl (by decide) _ _ _ rfl HO6.out w6.heap.size A6 ni c6 _ rfl Hfl.out Hnn.out Hrd.out (cells_one ei) (by simp only [maxLen]; omega) (by omega) hzk ?_
                           intro v' w7 ho7 hg7 hb7 _
                           obtain ⟨A7, c7, rfl⟩ := ownsRow_form ho7
                           rw [← List.flatMap_append] at ho7)
              go_roundw
              case rel =>
                refine ⟨k + 1, by omega, by go_num, ⟨A7, n9 + ni, c7, rfl, by omega, Lib.hid ?_⟩, Lib.hid (Z6.out.trans hb7)⟩
                rw [show eb ++ (insts.take (k + 1)).flatMap (S.eitems words) = (eb ++ (insts.take k).flatMap (S.eitems words)) ++ ei by rw [Hil.out, List.flatMap_append, List.flatMap_singleton, ← List.append_assoc, ← Hei.out]]
                exact ho7
              case measure => simp [intOf]; omega
            · have hkN2 : N = k := by omega
              subst hkN2
              have ht2 : insts.take N = insts := by rw [← HNl.out, List.take_length]
              rw [ht2] at HO
              have hlen9 := HO.out.1
              rw [flat8_len] at hlen9
              have Hl9 := Lib.hid (show (eb ++ insts.flatMap (S.eitems words)).length = n9 by omega)
              have H3r := Lib.hid h3r
              clear hlen9 ht2 h3r
              go_wp2_with fail
              (try simp only [Exit.inBlock, Exit.then])
              refine bodyPost_ret (v := .tuple #[.agg #[.string ((⟨#[102, 117, 110]⟩ : ByteArray) ++ ⟨lf.toArray⟩), .slice A9 n9 c9], .int .i64 0]) (by rw [results_cell_tmp rfl]; go_simp) rfl ⟨.slice A9 n9 c9, ?_, ?_, ?_⟩
              · rw [HG.out.1, HE.out, Hnf.out, ← Hf.out]
              · rw [HG.out.2, ← Heb.out, Hl9.out]
                have hb22 := Hb22.out
                exact ownsRow_base (ownsRow_setCell_below (a := ⟨w.heap.size + 1, 1, none⟩) (ownsRow_setCell_below (a := ⟨w.heap.size + 1, 0, none⟩) HO.out (by show w.heap.size + 1 < W0.heap.size; omega) _) (by show w.heap.size + 1 < W0.heap.size; omega) _) (by omega)
              · exact (H3r.out.setCell (p := ⟨w.heap.size + 1, 0, none⟩) (by show w.heap.size ≤ w.heap.size + 1; omega) _).setCell (p := ⟨w.heap.size + 1, 1, none⟩) (by show w.heap.size ≤ w.heap.size + 1; omega) _
        | false =>
          subst hrest
          by_cases hneed : 0 < need
          · obtain ⟨p0, p1, p2, p3, p4, p5, p6, o0, o1, g0, g1⟩ := Hc.out w4 Z4.out
            have hcv : IntKind.u32.wrap params = S.u32 params := by rw [IntKind.wrap_u32]; rfl
            have hu0 : 0 ≤ S.u32 params ∧ S.u32 params ≤ 4294967295 := by unfold S.u32; omega
            have hld := fun W => r_Load 3 (S.u32 params) hu0.1 hu0.2 W
            have hel := eload_len 3 (S.u32 params)
            obtain ⟨es, hes⟩ : ∃ es, es = S.eload 3 (S.u32 params) := ⟨_, rfl⟩
            rw [← hes] at hld hel
            obtain ⟨ne, hne⟩ : ∃ ne, ne = es.length := ⟨_, rfl⟩
            unfold LstP at hld
            rw [← hne] at hld hel
            have Hfl_es := Lib.hid (show (es.flatMap itemCells).length = ne * 8 by rw [flat8_len, hne])
            have Hes := Lib.hid hes
            have Hne := Lib.hid hne
            have Hld_es := Lib.hid hld
            clear hld hes hne hu0
            have hcn : IntKind.u32.wrap need = S.u32 need := by rw [IntKind.wrap_u32]; rfl
            have hu0 : 0 ≤ S.u32 need ∧ S.u32 need ≤ 4294967295 := by unfold S.u32; omega
            have hld := fun W => r_Load 3 (S.u32 need) hu0.1 hu0.2 W
            have hel2 := eload_len 3 (S.u32 need)
            obtain ⟨en, hes⟩ : ∃ en, en = S.eload 3 (S.u32 need) := ⟨_, rfl⟩
            rw [← hes] at hld hel2
            obtain ⟨nn, hne⟩ : ∃ nn, nn = en.length := ⟨_, rfl⟩
            unfold LstP at hld
            rw [← hne] at hld hel2
            have Hfl_en := Lib.hid (show (en.flatMap itemCells).length = nn * 8 by rw [flat8_len, hne])
            have Hen := Lib.hid hes
            have Hnn2 := Lib.hid hne
            have Hld_en := Lib.hid hld
            clear hld hes hne hu0
            go_upto_region 15 with fail
            have hol : (w4.alloc (.cells #[.int .i64 2, .int .i64 0, .int .i64 0, .int .i64 0, .int .i64 0, .int .i64 0, .string ((⟨#[102]⟩ : ByteArray) ++ ⟨lf.toArray⟩), .int .u32 0] 49)).ownsRow W0.heap.size 49 8 (.slice (some ⟨w4.heap.size, 0, none⟩) 1 1) 1 ([S.iLabel (S.outer fn)].flatMap itemCells) := lst_own (w1 := w4) (B := W0.heap.size) Z4.out.size [S.iLabel (S.outer fn)] #[.int .i64 2, .int .i64 0, .int .i64 0, .int .i64 0, .int .i64 0, .int .i64 0, .string ((⟨#[102]⟩ : ByteArray) ++ ⟨lf.toArray⟩), .int .u32 0] (by simp only [List.flatMap_cons, List.flatMap_nil, itemCells, S.iLabel, Hno.out, ← Ho.out]; rfl) (by simp)
            have hbl : Below w4.heap.size w4 (w4.alloc (.cells #[.int .i64 2, .int .i64 0, .int .i64 0, .int .i64 0, .int .i64 0, .int .i64 0, .string ((⟨#[102]⟩ : ByteArray) ++ ⟨lf.toArray⟩), .int .u32 0] 49)) := (Below.refl _ _).alloc (Nat.le_refl _) _
            have Z11 := Lib.hid (Z4.out.trans (hbl.mono Z4.out.size))
            have HO11 := Lib.hid hol
            clear hol hbl
            generalize w4.alloc (.cells #[.int .i64 2, .int .i64 0, .int .i64 0, .int .i64 0, .int .i64 0, .int .i64 0, .string ((⟨#[102]⟩ : ByteArray) ++ ⟨lf.toArray⟩), .int .u32 0] 49) = w11 at *
            clear p0 p1 p2 p3 p4 p5 p6 o0 o1 g0 g1
            go_wp2_with fail
            refine ((Hld_es.out w11)).mono ?_
            rintro e w12 ⟨A12, c12, rfl, ho, hb⟩
            have Hrd := Lib.hid (reads_own ho)
            have Hnn := Lib.hid (fun h : A12 = none => ownsRow_none ho h)
            have HO12 := Lib.hid (ownsRow_below HO11.out hb)
            have Z12 := Lib.hid (Z11.out.trans (hb.mono Z11.out.size))
            have hzk := Z12.out.size
            clear ho hb
            go_wp2_with (at_builtin
                         refine wpList_appendsN rfl (.tmp 64) (.tmp 67) _ rfl W0.heap.size 49 item_info Tryd.underlying28 rfl (by decide) _ _ _ rfl HO12.out w12.heap.size A12 ne c12 _ rfl Hfl_es.out Hnn.out Hrd.out (cells_one es) (by (try simp only [maxLen, List.length_cons, List.length_nil]); omega) (by (try simp only [List.length_cons, List.length_nil]); omega) hzk ?_
                         intro v' w13 ho7 hg7 hb7 _
                         obtain ⟨A13, c13, rfl⟩ := ownsRow_form ho7
                         rw [← List.flatMap_append] at ho7
                         have HO13 := Lib.hid ho7
                         have Z13 := Lib.hid (Z12.out.trans hb7)
                         obtain ⟨p0, p1, p2, p3, p4, p5, p6, o0, o1, g0, g1⟩ := Hc.out w13 Z13.out
                         clear ho7 hg7 hb7)
            clear hzk
            clear Hrd Hnn
            go_wp2_with fail
            clear p0 p1 p2 p3 p4 p5 p6 o0 o1 g0 g1
            refine (r24_Label 103 (by unfold I64; decide) w13).mono ?_
            rintro e w14 ⟨rfl, hb⟩
            have Z14 := Lib.hid (Z13.out.trans (hb.mono Z13.out.size))
            have HO14 := Lib.hid (ownsRow_below HO13.out hb)
            clear hb
            have hbl : Below w14.heap.size w14 (w14.alloc (.cells #[.int .i64 3, .int .i64 27, .int .i64 0, .int .i64 2, .int .i64 3, .int .i64 0, .string (S.rt 103), .int .u32 0, .int .i64 2, .int .i64 0, .int .i64 0, .int .i64 0, .int .i64 0, .int .i64 0, .string ((⟨#[107]⟩ : ByteArray) ++ ⟨lf.toArray⟩), .int .u32 0] 49)) := (Below.refl _ _).alloc (Nat.le_refl _) _
            have hol := lst_own (w1 := w14) (B := w14.heap.size) (Nat.le_refl _) [S.iBranch 27 2 3 (S.rt 103), S.iLabel (S.inner fn)] #[.int .i64 3, .int .i64 27, .int .i64 0, .int .i64 2, .int .i64 3, .int .i64 0, .string (S.rt 103), .int .u32 0, .int .i64 2, .int .i64 0, .int .i64 0, .int .i64 0, .int .i64 0, .int .i64 0, .string ((⟨#[107]⟩ : ByteArray) ++ ⟨lf.toArray⟩), .int .u32 0] (by simp only [List.flatMap_cons, List.flatMap_nil, itemCells, S.iLabel, S.iBranch, Hnk.out, ← Hk.out]; rfl) (by simp)
            have Hrd := Lib.hid (reads_own hol)
            have HO15 := Lib.hid (ownsRow_below HO14.out hbl)
            have Z15 := Lib.hid (Z14.out.trans (hbl.mono Z14.out.size))
            have hzk := Z15.out.size
            clear hbl hol
            go_wp2_with (at_builtin
                         refine wpList_appendsN rfl (.tmp 69) (.tmp 77) _ rfl W0.heap.size 49 item_info Tryd.underlying28 rfl (by decide) _ _ _ rfl HO15.out (w14.alloc (.cells #[.int .i64 3, .int .i64 27, .int .i64 0, .int .i64 2, .int .i64 3, .int .i64 0, .string (S.rt 103), .int .u32 0, .int .i64 2, .int .i64 0, .int .i64 0, .int .i64 0, .int .i64 0, .int .i64 0, .string ((⟨#[107]⟩ : ByteArray) ++ ⟨lf.toArray⟩), .int .u32 0] 49)).heap.size (some ⟨w14.heap.size, 0, none⟩) 2 2 _ rfl (flat8_len [S.iBranch 27 2 3 (S.rt 103), S.iLabel (S.inner fn)]) (fun h => by cases h) Hrd.out (cells_one [S.iBranch 27 2 3 (S.rt 103), S.iLabel (S.inner fn)]) (by (try simp only [maxLen, List.length_cons, List.length_nil]); omega) (by (try simp only [List.length_cons, List.length_nil]); omega) hzk ?_
                         intro v' w16 ho7 hg7 hb7 _
                         obtain ⟨A16, c16, rfl⟩ := ownsRow_form ho7
                         rw [← List.flatMap_append] at ho7
                         have HO16 := Lib.hid ho7
                         have Z16 := Lib.hid (Z15.out.trans hb7)
                         obtain ⟨p0, p1, p2, p3, p4, p5, p6, o0, o1, g0, g1⟩ := Hc.out w16 Z16.out
                         clear ho7 hg7 hb7)
            clear hzk
            clear Hrd
            go_wp2_with fail
            clear p0 p1 p2 p3 p4 p5 p6 o0 o1 g0 g1
            refine ((Hld_en.out w16)).mono ?_
            rintro e w17 ⟨A17, c17, rfl, ho, hb⟩
            have Hrd := Lib.hid (reads_own ho)
            have Hnn := Lib.hid (fun h : A17 = none => ownsRow_none ho h)
            have HO17 := Lib.hid (ownsRow_below HO16.out hb)
            have Z17 := Lib.hid (Z16.out.trans (hb.mono Z16.out.size))
            have hzk := Z17.out.size
            clear ho hb
            go_wp2_with (at_builtin
                         refine wpList_appendsN rfl (.tmp 94) (.tmp 98) _ rfl W0.heap.size 49 item_info Tryd.underlying28 rfl (by decide) _ _ _ rfl HO17.out w17.heap.size A17 nn c17 _ rfl Hfl_en.out Hnn.out Hrd.out (cells_one en) (by (try simp only [maxLen, List.length_cons, List.length_nil]); omega) (by (try simp only [List.length_cons, List.length_nil]); omega) hzk ?_
                         intro v' w18 ho7 hg7 hb7 _
                         obtain ⟨A18, c18, rfl⟩ := ownsRow_form ho7
                         rw [← List.flatMap_append] at ho7
                         have HO18 := Lib.hid ho7
                         have Z18 := Lib.hid (Z17.out.trans hb7)
                         obtain ⟨p0, p1, p2, p3, p4, p5, p6, o0, o1, g0, g1⟩ := Hc.out w18 Z18.out
                         clear ho7 hg7 hb7)
            clear hzk
            clear Hrd Hnn
            go_wp2_with fail
            clear p0 p1 p2 p3 p4 p5 p6 o0 o1 g0 g1
            refine (r_iInst 1 3 26 3 0 w18).mono ?_
            rintro e w19 ⟨rfl, hb⟩
            have Z19 := Lib.hid (Z18.out.trans (hb.mono Z18.out.size))
            have HO19 := Lib.hid (ownsRow_below HO18.out hb)
            clear hb
            unfold itemV S.iInst S.noLab
            have hbl : Below w19.heap.size w19 (w19.alloc (.cells #[.int .i64 1, .int .i64 1, .int .i64 3, .int .i64 26, .int .i64 3, .int .i64 0, .string ⟨#[]⟩, .int .u32 0, .int .i64 3, .int .i64 31, .int .i64 0, .int .i64 27, .int .i64 3, .int .i64 0, .string ⟨#[46, 103, 111]⟩, .int .u32 0] 49)) := (Below.refl _ _).alloc (Nat.le_refl _) _
            have hol := lst_own (w1 := w19) (B := w19.heap.size) (Nat.le_refl _) [S.iInst 1 3 26 3 0, S.iBranch 31 27 3 S.goLab] #[.int .i64 1, .int .i64 1, .int .i64 3, .int .i64 26, .int .i64 3, .int .i64 0, .string ⟨#[]⟩, .int .u32 0, .int .i64 3, .int .i64 31, .int .i64 0, .int .i64 27, .int .i64 3, .int .i64 0, .string ⟨#[46, 103, 111]⟩, .int .u32 0] (rfl) (by simp)
            have Hrd := Lib.hid (reads_own hol)
            have HO20 := Lib.hid (ownsRow_below HO19.out hbl)
            have Z20 := Lib.hid (Z19.out.trans (hbl.mono Z19.out.size))
            have hzk := Z20.out.size
            clear hbl hol
            go_wp2_with (at_builtin
                         refine wpList_appendsN rfl (.tmp 100) (.tmp 104) _ rfl W0.heap.size 49 item_info Tryd.underlying28 rfl (by decide) _ _ _ rfl HO20.out (w19.alloc (.cells #[.int .i64 1, .int .i64 1, .int .i64 3, .int .i64 26, .int .i64 3, .int .i64 0, .string ⟨#[]⟩, .int .u32 0, .int .i64 3, .int .i64 31, .int .i64 0, .int .i64 27, .int .i64 3, .int .i64 0, .string ⟨#[46, 103, 111]⟩, .int .u32 0] 49)).heap.size (some ⟨w19.heap.size, 0, none⟩) 2 2 _ rfl (flat8_len [S.iInst 1 3 26 3 0, S.iBranch 31 27 3 S.goLab]) (fun h => by cases h) Hrd.out (cells_one [S.iInst 1 3 26 3 0, S.iBranch 31 27 3 S.goLab]) (by (try simp only [maxLen, List.length_cons, List.length_nil]); omega) (by (try simp only [List.length_cons, List.length_nil]); omega) hzk ?_
                         intro v' w21 ho7 hg7 hb7 _
                         obtain ⟨A21, c21, rfl⟩ := ownsRow_form ho7
                         rw [← List.flatMap_append] at ho7
                         have HO21 := Lib.hid ho7
                         have Z21 := Lib.hid (Z20.out.trans hb7)
                         obtain ⟨p0, p1, p2, p3, p4, p5, p6, o0, o1, g0, g1⟩ := Hc.out w21 Z21.out
                         clear ho7 hg7 hb7)
            clear hzk
            clear Hrd
            go_wp2_with fail
            clear p0 p1 p2 p3 p4 p5 p6 o0 o1 g0 g1
            refine ((Hld_en.out w21)).mono ?_
            rintro e w22 ⟨A22, c22, rfl, ho, hb⟩
            have Hrd := Lib.hid (reads_own ho)
            have Hnn := Lib.hid (fun h : A22 = none => ownsRow_none ho h)
            have HO22 := Lib.hid (ownsRow_below HO21.out hb)
            have Z22 := Lib.hid (Z21.out.trans (hb.mono Z21.out.size))
            have hzk := Z22.out.size
            clear ho hb
            go_wp2_with (at_builtin
                         refine wpList_appendsN rfl (.tmp 106) (.tmp 110) _ rfl W0.heap.size 49 item_info Tryd.underlying28 rfl (by decide) _ _ _ rfl HO22.out w22.heap.size A22 nn c22 _ rfl Hfl_en.out Hnn.out Hrd.out (cells_one en) (by (try simp only [maxLen, List.length_cons, List.length_nil]); omega) (by (try simp only [List.length_cons, List.length_nil]); omega) hzk ?_
                         intro v' w23 ho7 hg7 hb7 _
                         obtain ⟨A23, c23, rfl⟩ := ownsRow_form ho7
                         rw [← List.flatMap_append] at ho7
                         have HO23 := Lib.hid ho7
                         have Z23 := Lib.hid (Z22.out.trans hb7)
                         obtain ⟨p0, p1, p2, p3, p4, p5, p6, o0, o1, g0, g1⟩ := Hc.out w23 Z23.out
                         clear ho7 hg7 hb7)
            clear hzk
            clear Hrd Hnn
            go_wp2_with fail
            clear p0 p1 p2 p3 p4 p5 p6 o0 o1 g0 g1
            refine (r24_Label 100 (by unfold I64; decide) w23).mono ?_
            rintro e w24 ⟨rfl, hb⟩
            have Z24 := Lib.hid (Z23.out.trans (hb.mono Z23.out.size))
            have HO24 := Lib.hid (ownsRow_below HO23.out hb)
            clear hb
            go_wp2_with fail
            refine (r_iJump 31 (S.rt 100) w24).mono ?_
            rintro e w25 ⟨rfl, hb⟩
            have Z25 := Lib.hid (Z24.out.trans (hb.mono Z24.out.size))
            have HO25 := Lib.hid (ownsRow_below HO24.out hb)
            clear hb
            unfold itemV S.iJump
            have hbl : Below w25.heap.size w25 (w25.alloc (.cells #[.int .i64 4, .int .i64 0, .int .i64 31, .int .i64 0, .int .i64 0, .int .i64 0, .string (S.rt 100), .int .u32 0, .int .i64 2, .int .i64 0, .int .i64 0, .int .i64 0, .int .i64 0, .int .i64 0, .string ⟨#[46, 103, 111]⟩, .int .u32 0] 49)) := (Below.refl _ _).alloc (Nat.le_refl _) _
            have hol := lst_own (w1 := w25) (B := w25.heap.size) (Nat.le_refl _) [S.iJump 31 (S.rt 100), S.iLabel S.goLab] #[.int .i64 4, .int .i64 0, .int .i64 31, .int .i64 0, .int .i64 0, .int .i64 0, .string (S.rt 100), .int .u32 0, .int .i64 2, .int .i64 0, .int .i64 0, .int .i64 0, .int .i64 0, .int .i64 0, .string ⟨#[46, 103, 111]⟩, .int .u32 0] (rfl) (by simp)
            have Hrd := Lib.hid (reads_own hol)
            have HO26 := Lib.hid (ownsRow_below HO25.out hbl)
            have Z26 := Lib.hid (Z25.out.trans (hbl.mono Z25.out.size))
            have hzk := Z26.out.size
            clear hbl hol
            go_wp2_with (at_builtin
                         refine wpList_appendsN rfl (.tmp 112) (.tmp 116) _ rfl W0.heap.size 49 item_info Tryd.underlying28 rfl (by decide) _ _ _ rfl HO26.out (w25.alloc (.cells #[.int .i64 4, .int .i64 0, .int .i64 31, .int .i64 0, .int .i64 0, .int .i64 0, .string (S.rt 100), .int .u32 0, .int .i64 2, .int .i64 0, .int .i64 0, .int .i64 0, .int .i64 0, .int .i64 0, .string ⟨#[46, 103, 111]⟩, .int .u32 0] 49)).heap.size (some ⟨w25.heap.size, 0, none⟩) 2 2 _ rfl (flat8_len [S.iJump 31 (S.rt 100), S.iLabel S.goLab]) (fun h => by cases h) Hrd.out (cells_one [S.iJump 31 (S.rt 100), S.iLabel S.goLab]) (by (try simp only [maxLen, List.length_cons, List.length_nil]); omega) (by (try simp only [List.length_cons, List.length_nil]); omega) hzk ?_
                         intro v' w27 ho7 hg7 hb7 _
                         obtain ⟨A27, c27, rfl⟩ := ownsRow_form ho7
                         rw [← List.flatMap_append] at ho7
                         have HO27 := Lib.hid ho7
                         have Z27 := Lib.hid (Z26.out.trans hb7)
                         obtain ⟨p0, p1, p2, p3, p4, p5, p6, o0, o1, g0, g1⟩ := Hc.out w27 Z27.out
                         clear ho7 hg7 hb7)
            clear hzk
            clear Hrd
            go_wp2_with fail
            clear p0 p1 p2 p3 p4 p5 p6 o0 o1 g0 g1
            have hEb : (((((([S.iLabel (S.outer fn)] ++ es) ++ [S.iBranch 27 2 3 (S.rt 103), S.iLabel (S.inner fn)]) ++ en) ++ [S.iInst 1 3 26 3 0, S.iBranch 31 27 3 S.goLab]) ++ en) ++ [S.iJump 31 (S.rt 100), S.iLabel S.goLab]) = S.eentry ⟨fn, regs, slots, need, params, false, insts⟩ := by
              rw [Hes.out, Hen.out]
              simp [S.eentry, hneed]
            obtain ⟨eb, heb⟩ : ∃ eb, eb = S.eentry ⟨fn, regs, slots, need, params, false, insts⟩ := ⟨_, rfl⟩
            rw [← heb] at hEb
            have Heb := Lib.hid heb
            have HOz := HO27.out
            rw [hEb] at HOz
            have HOZ := Lib.hid HOz
            clear hEb heb HOz
            go_loopw [10, 11] (fun v10 v11 wl => ∃ k : Nat, k ≤ N ∧ v11 = .int .i64 k ∧ (∃ A9 n9 c9, v10 = .slice A9 n9 c9 ∧ n9 ≤ 20 + 2000 * k ∧ Hid (wl.ownsRow W0.heap.size 49 8 (.slice A9 n9 c9) n9 ((eb ++ (insts.take k).flatMap (S.eitems words)).flatMap itemCells))) ∧ Hid (Below W0.heap.size W0 wl)) (fun _ v11 _ => N - (intOf v11).toNat)
            case atStart => exact ⟨0, by omega, rfl, ⟨_, _, _, rfl, by omega, Lib.hid (by simpa using HOZ.out)⟩, Z27⟩
            case round =>
              obtain ⟨k, hk, rfl, ⟨A9, n9, c9, rfl, hn9, HO⟩, HB⟩ := hrel
              obtain ⟨p0, p1, p2, p3, p4, p5, p6, o0, o1, g0, g1⟩ := Hc.out wr HB.out
              have h3r := Hb2.out.trans (HB.out.mono Hb2.out.size)
              by_cases hlt : k < N
              · have hkx : k < xs.length := by rw [← HN.out]; exact hlt
                obtain ⟨b, off, x, hAe, hbB, hge, hVA⟩ := ((Hv.out.below h3r)).at_ hkx
                rw [hAe] at p6
                have hmi := List.mem_of_getElem? (Hins.out k x hge)
                have Hil := Lib.hid ((mv_split insts k x.i (Hins.out k x hge)).2)
                have hit := Hit.out x (List.mem_of_getElem? hge) (HF1.out x.i hmi) (HD.out x.i hmi) wr h3r
                have hel := eitems_len words x.i (fun s hs' => by
                  have h9 := (einst_facts (HF1.out x.i hmi).1).2.1 s hs'
                  have h10 : s < slots := h9.2
                  omega)
                obtain ⟨ei, hei⟩ : ∃ ei, ei = S.eitems words x.i := ⟨_, rfl⟩
                rw [← hei] at hit hel
                obtain ⟨ni, hni⟩ : ∃ ni, ni = ei.length := ⟨_, rfl⟩
                unfold LstP viCells at hit
                rw [← hni] at hit hel
                have Hfl := Lib.hid (show (ei.flatMap itemCells).length = ni * 8 by rw [flat8_len, hni])
                have Hei := Lib.hid hei
                have Hhit := Lib.hid hit
                obtain ⟨q0, q1, q2, q3, q4, q5, q6, q7⟩ := hVA
                clear hge h3r hmi hit hei hni hAe
                go_wp2_with fail
                refine Hhit.out.mono ?_
                rintro e w6 ⟨A6, c6, rfl, ho, hb⟩
                have Hrd := Lib.hid (reads_own ho)
                have Hnn := Lib.hid (fun h : A6 = none => ownsRow_none ho h)
                have HO6 := Lib.hid (ownsRow_below HO.out hb)
                have Z6 := Lib.hid (HB.out.trans (hb.mono HB.out.size))
                have hzk := Z6.out.size
                clear ho hb p0 p1 p2 p3 p4 p5 p6 o0 o1 g0 g1 q0 q1 q2 q3 q4 q5 q6 q7
                go_wp2_with (at_builtin
                             refine wpList_appendsN rfl (.tmp 125) (.tmp 132) _ rfl W0.heap.size 49 item_info Tryd.underlying28 rfl (by decide) _ _ _ rfl HO6.out w6.heap.size A6 ni c6 _ rfl Hfl.out Hnn.out Hrd.out (cells_one ei) (by simp only [maxLen]; omega) (by omega) hzk ?_
                             intro v' w7 ho7 hg7 hb7 _
                             obtain ⟨A7, c7, rfl⟩ := ownsRow_form ho7
                             rw [← List.flatMap_append] at ho7)
                go_roundw
                case rel =>
                  refine ⟨k + 1, by omega, by go_num, ⟨A7, n9 + ni, c7, rfl, by omega, Lib.hid ?_⟩, Lib.hid (Z6.out.trans hb7)⟩
                  rw [show eb ++ (insts.take (k + 1)).flatMap (S.eitems words) = (eb ++ (insts.take k).flatMap (S.eitems words)) ++ ei by rw [Hil.out, List.flatMap_append, List.flatMap_singleton, ← List.append_assoc, ← Hei.out]]
                  exact ho7
                case measure => simp [intOf]; omega
              · have hkN2 : N = k := by omega
                subst hkN2
                have ht2 : insts.take N = insts := by rw [← HNl.out, List.take_length]
                rw [ht2] at HO
                have hlen9 := HO.out.1
                rw [flat8_len] at hlen9
                have Hl9 := Lib.hid (show (eb ++ insts.flatMap (S.eitems words)).length = n9 by omega)
                have H3r := Lib.hid h3r
                clear hlen9 ht2 h3r
                go_wp2_with fail
                (try simp only [Exit.inBlock, Exit.then])
                refine bodyPost_ret (v := .tuple #[.agg #[.string ((⟨#[102, 117, 110]⟩ : ByteArray) ++ ⟨lf.toArray⟩), .slice A9 n9 c9], .int .i64 0]) (by rw [results_cell_tmp rfl]; go_simp) rfl ⟨.slice A9 n9 c9, ?_, ?_, ?_⟩
                · rw [HG.out.1, HE.out, Hnf.out, ← Hf.out]
                · rw [HG.out.2, ← Heb.out, Hl9.out]
                  have hb22 := Hb22.out
                  exact ownsRow_base (ownsRow_setCell_below (a := ⟨w.heap.size + 1, 1, none⟩) (ownsRow_setCell_below (a := ⟨w.heap.size + 1, 0, none⟩) HO.out (by show w.heap.size + 1 < W0.heap.size; omega) _) (by show w.heap.size + 1 < W0.heap.size; omega) _) (by omega)
                · exact (H3r.out.setCell (p := ⟨w.heap.size + 1, 0, none⟩) (by show w.heap.size ≤ w.heap.size + 1; omega) _).setCell (p := ⟨w.heap.size + 1, 1, none⟩) (by show w.heap.size ≤ w.heap.size + 1; omega) _
          · obtain ⟨p0, p1, p2, p3, p4, p5, p6, o0, o1, g0, g1⟩ := Hc.out w4 Z4.out
            have hcv : IntKind.u32.wrap params = S.u32 params := by rw [IntKind.wrap_u32]; rfl
            have hu0 : 0 ≤ S.u32 params ∧ S.u32 params ≤ 4294967295 := by unfold S.u32; omega
            have hld := fun W => r_Load 3 (S.u32 params) hu0.1 hu0.2 W
            have hel := eload_len 3 (S.u32 params)
            obtain ⟨es, hes⟩ : ∃ es, es = S.eload 3 (S.u32 params) := ⟨_, rfl⟩
            rw [← hes] at hld hel
            obtain ⟨ne, hne⟩ : ∃ ne, ne = es.length := ⟨_, rfl⟩
            unfold LstP at hld
            rw [← hne] at hld hel
            have Hfl_es := Lib.hid (show (es.flatMap itemCells).length = ne * 8 by rw [flat8_len, hne])
            have Hes := Lib.hid hes
            have Hne := Lib.hid hne
            have Hld_es := Lib.hid hld
            clear hld hes hne hu0
            go_upto_region 15 with fail
            have hol : (w4.alloc (.cells #[.int .i64 2, .int .i64 0, .int .i64 0, .int .i64 0, .int .i64 0, .int .i64 0, .string ((⟨#[102]⟩ : ByteArray) ++ ⟨lf.toArray⟩), .int .u32 0] 49)).ownsRow W0.heap.size 49 8 (.slice (some ⟨w4.heap.size, 0, none⟩) 1 1) 1 ([S.iLabel (S.outer fn)].flatMap itemCells) := lst_own (w1 := w4) (B := W0.heap.size) Z4.out.size [S.iLabel (S.outer fn)] #[.int .i64 2, .int .i64 0, .int .i64 0, .int .i64 0, .int .i64 0, .int .i64 0, .string ((⟨#[102]⟩ : ByteArray) ++ ⟨lf.toArray⟩), .int .u32 0] (by simp only [List.flatMap_cons, List.flatMap_nil, itemCells, S.iLabel, Hno.out, ← Ho.out]; rfl) (by simp)
            have hbl : Below w4.heap.size w4 (w4.alloc (.cells #[.int .i64 2, .int .i64 0, .int .i64 0, .int .i64 0, .int .i64 0, .int .i64 0, .string ((⟨#[102]⟩ : ByteArray) ++ ⟨lf.toArray⟩), .int .u32 0] 49)) := (Below.refl _ _).alloc (Nat.le_refl _) _
            have Z11 := Lib.hid (Z4.out.trans (hbl.mono Z4.out.size))
            have HO11 := Lib.hid hol
            clear hol hbl
            generalize w4.alloc (.cells #[.int .i64 2, .int .i64 0, .int .i64 0, .int .i64 0, .int .i64 0, .int .i64 0, .string ((⟨#[102]⟩ : ByteArray) ++ ⟨lf.toArray⟩), .int .u32 0] 49) = w11 at *
            clear p0 p1 p2 p3 p4 p5 p6 o0 o1 g0 g1
            go_wp2_with fail
            refine ((Hld_es.out w11)).mono ?_
            rintro e w12 ⟨A12, c12, rfl, ho, hb⟩
            have Hrd := Lib.hid (reads_own ho)
            have Hnn := Lib.hid (fun h : A12 = none => ownsRow_none ho h)
            have HO12 := Lib.hid (ownsRow_below HO11.out hb)
            have Z12 := Lib.hid (Z11.out.trans (hb.mono Z11.out.size))
            have hzk := Z12.out.size
            clear ho hb
            go_wp2_with (at_builtin
                         refine wpList_appendsN rfl (.tmp 64) (.tmp 67) _ rfl W0.heap.size 49 item_info Tryd.underlying28 rfl (by decide) _ _ _ rfl HO12.out w12.heap.size A12 ne c12 _ rfl Hfl_es.out Hnn.out Hrd.out (cells_one es) (by (try simp only [maxLen, List.length_cons, List.length_nil]); omega) (by (try simp only [List.length_cons, List.length_nil]); omega) hzk ?_
                         intro v' w13 ho7 hg7 hb7 _
                         obtain ⟨A13, c13, rfl⟩ := ownsRow_form ho7
                         rw [← List.flatMap_append] at ho7
                         have HO13 := Lib.hid ho7
                         have Z13 := Lib.hid (Z12.out.trans hb7)
                         obtain ⟨p0, p1, p2, p3, p4, p5, p6, o0, o1, g0, g1⟩ := Hc.out w13 Z13.out
                         clear ho7 hg7 hb7)
            clear hzk
            clear Hrd Hnn
            go_wp2_with fail
            clear p0 p1 p2 p3 p4 p5 p6 o0 o1 g0 g1
            refine (r24_Label 103 (by unfold I64; decide) w13).mono ?_
            rintro e w14 ⟨rfl, hb⟩
            have Z14 := Lib.hid (Z13.out.trans (hb.mono Z13.out.size))
            have HO14 := Lib.hid (ownsRow_below HO13.out hb)
            clear hb
            have hbl : Below w14.heap.size w14 (w14.alloc (.cells #[.int .i64 3, .int .i64 27, .int .i64 0, .int .i64 2, .int .i64 3, .int .i64 0, .string (S.rt 103), .int .u32 0, .int .i64 2, .int .i64 0, .int .i64 0, .int .i64 0, .int .i64 0, .int .i64 0, .string ((⟨#[107]⟩ : ByteArray) ++ ⟨lf.toArray⟩), .int .u32 0] 49)) := (Below.refl _ _).alloc (Nat.le_refl _) _
            have hol := lst_own (w1 := w14) (B := w14.heap.size) (Nat.le_refl _) [S.iBranch 27 2 3 (S.rt 103), S.iLabel (S.inner fn)] #[.int .i64 3, .int .i64 27, .int .i64 0, .int .i64 2, .int .i64 3, .int .i64 0, .string (S.rt 103), .int .u32 0, .int .i64 2, .int .i64 0, .int .i64 0, .int .i64 0, .int .i64 0, .int .i64 0, .string ((⟨#[107]⟩ : ByteArray) ++ ⟨lf.toArray⟩), .int .u32 0] (by simp only [List.flatMap_cons, List.flatMap_nil, itemCells, S.iLabel, S.iBranch, Hnk.out, ← Hk.out]; rfl) (by simp)
            have Hrd := Lib.hid (reads_own hol)
            have HO15 := Lib.hid (ownsRow_below HO14.out hbl)
            have Z15 := Lib.hid (Z14.out.trans (hbl.mono Z14.out.size))
            have hzk := Z15.out.size
            clear hbl hol
            go_wp2_with (at_builtin
                         refine wpList_appendsN rfl (.tmp 69) (.tmp 77) _ rfl W0.heap.size 49 item_info Tryd.underlying28 rfl (by decide) _ _ _ rfl HO15.out (w14.alloc (.cells #[.int .i64 3, .int .i64 27, .int .i64 0, .int .i64 2, .int .i64 3, .int .i64 0, .string (S.rt 103), .int .u32 0, .int .i64 2, .int .i64 0, .int .i64 0, .int .i64 0, .int .i64 0, .int .i64 0, .string ((⟨#[107]⟩ : ByteArray) ++ ⟨lf.toArray⟩), .int .u32 0] 49)).heap.size (some ⟨w14.heap.size, 0, none⟩) 2 2 _ rfl (flat8_len [S.iBranch 27 2 3 (S.rt 103), S.iLabel (S.inner fn)]) (fun h => by cases h) Hrd.out (cells_one [S.iBranch 27 2 3 (S.rt 103), S.iLabel (S.inner fn)]) (by (try simp only [maxLen, List.length_cons, List.length_nil]); omega) (by (try simp only [List.length_cons, List.length_nil]); omega) hzk ?_
                         intro v' w16 ho7 hg7 hb7 _
                         obtain ⟨A16, c16, rfl⟩ := ownsRow_form ho7
                         rw [← List.flatMap_append] at ho7
                         have HO16 := Lib.hid ho7
                         have Z16 := Lib.hid (Z15.out.trans hb7)
                         obtain ⟨p0, p1, p2, p3, p4, p5, p6, o0, o1, g0, g1⟩ := Hc.out w16 Z16.out
                         clear ho7 hg7 hb7)
            clear hzk
            clear Hrd
            go_wp2_with fail
            clear p0 p1 p2 p3 p4 p5 p6 o0 o1 g0 g1
            have hEb : (([S.iLabel (S.outer fn)] ++ es) ++ [S.iBranch 27 2 3 (S.rt 103), S.iLabel (S.inner fn)]) = S.eentry ⟨fn, regs, slots, need, params, false, insts⟩ := by
              rw [Hes.out]
              simp [S.eentry, hneed]
            obtain ⟨eb, heb⟩ : ∃ eb, eb = S.eentry ⟨fn, regs, slots, need, params, false, insts⟩ := ⟨_, rfl⟩
            rw [← heb] at hEb
            have Heb := Lib.hid heb
            have HOz := HO16.out
            rw [hEb] at HOz
            have HOZ := Lib.hid HOz
            clear hEb heb HOz
            go_loopw [10, 11] (fun v10 v11 wl => ∃ k : Nat, k ≤ N ∧ v11 = .int .i64 k ∧ (∃ A9 n9 c9, v10 = .slice A9 n9 c9 ∧ n9 ≤ 20 + 2000 * k ∧ Hid (wl.ownsRow W0.heap.size 49 8 (.slice A9 n9 c9) n9 ((eb ++ (insts.take k).flatMap (S.eitems words)).flatMap itemCells))) ∧ Hid (Below W0.heap.size W0 wl)) (fun _ v11 _ => N - (intOf v11).toNat)
            case atStart => exact ⟨0, by omega, rfl, ⟨_, _, _, rfl, by omega, Lib.hid (by simpa using HOZ.out)⟩, Z16⟩
            case round =>
              obtain ⟨k, hk, rfl, ⟨A9, n9, c9, rfl, hn9, HO⟩, HB⟩ := hrel
              obtain ⟨p0, p1, p2, p3, p4, p5, p6, o0, o1, g0, g1⟩ := Hc.out wr HB.out
              have h3r := Hb2.out.trans (HB.out.mono Hb2.out.size)
              by_cases hlt : k < N
              · have hkx : k < xs.length := by rw [← HN.out]; exact hlt
                obtain ⟨b, off, x, hAe, hbB, hge, hVA⟩ := ((Hv.out.below h3r)).at_ hkx
                rw [hAe] at p6
                have hmi := List.mem_of_getElem? (Hins.out k x hge)
                have Hil := Lib.hid ((mv_split insts k x.i (Hins.out k x hge)).2)
                have hit := Hit.out x (List.mem_of_getElem? hge) (HF1.out x.i hmi) (HD.out x.i hmi) wr h3r
                have hel := eitems_len words x.i (fun s hs' => by
                  have h9 := (einst_facts (HF1.out x.i hmi).1).2.1 s hs'
                  have h10 : s < slots := h9.2
                  omega)
                obtain ⟨ei, hei⟩ : ∃ ei, ei = S.eitems words x.i := ⟨_, rfl⟩
                rw [← hei] at hit hel
                obtain ⟨ni, hni⟩ : ∃ ni, ni = ei.length := ⟨_, rfl⟩
                unfold LstP viCells at hit
                rw [← hni] at hit hel
                have Hfl := Lib.hid (show (ei.flatMap itemCells).length = ni * 8 by rw [flat8_len, hni])
                have Hei := Lib.hid hei
                have Hhit := Lib.hid hit
                obtain ⟨q0, q1, q2, q3, q4, q5, q6, q7⟩ := hVA
                clear hge h3r hmi hit hei hni hAe
                go_wp2_with fail
                refine Hhit.out.mono ?_
                rintro e w6 ⟨A6, c6, rfl, ho, hb⟩
                have Hrd := Lib.hid (reads_own ho)
                have Hnn := Lib.hid (fun h : A6 = none => ownsRow_none ho h)
                have HO6 := Lib.hid (ownsRow_below HO.out hb)
                have Z6 := Lib.hid (HB.out.trans (hb.mono HB.out.size))
                have hzk := Z6.out.size
                clear ho hb p0 p1 p2 p3 p4 p5 p6 o0 o1 g0 g1 q0 q1 q2 q3 q4 q5 q6 q7
                go_wp2_with (at_builtin
                             refine wpList_appendsN rfl (.tmp 125) (.tmp 132) _ rfl W0.heap.size 49 item_info Tryd.underlying28 rfl (by decide) _ _ _ rfl HO6.out w6.heap.size A6 ni c6 _ rfl Hfl.out Hnn.out Hrd.out (cells_one ei) (by simp only [maxLen]; omega) (by omega) hzk ?_
                             intro v' w7 ho7 hg7 hb7 _
                             obtain ⟨A7, c7, rfl⟩ := ownsRow_form ho7
                             rw [← List.flatMap_append] at ho7)
                go_roundw
                case rel =>
                  refine ⟨k + 1, by omega, by go_num, ⟨A7, n9 + ni, c7, rfl, by omega, Lib.hid ?_⟩, Lib.hid (Z6.out.trans hb7)⟩
                  rw [show eb ++ (insts.take (k + 1)).flatMap (S.eitems words) = (eb ++ (insts.take k).flatMap (S.eitems words)) ++ ei by rw [Hil.out, List.flatMap_append, List.flatMap_singleton, ← List.append_assoc, ← Hei.out]]
                  exact ho7
                case measure => simp [intOf]; omega
              · have hkN2 : N = k := by omega
                subst hkN2
                have ht2 : insts.take N = insts := by rw [← HNl.out, List.take_length]
                rw [ht2] at HO
                have hlen9 := HO.out.1
                rw [flat8_len] at hlen9
                have Hl9 := Lib.hid (show (eb ++ insts.flatMap (S.eitems words)).length = n9 by omega)
                have H3r := Lib.hid h3r
                clear hlen9 ht2 h3r
                go_wp2_with fail
                (try simp only [Exit.inBlock, Exit.then])
                refine bodyPost_ret (v := .tuple #[.agg #[.string ((⟨#[102, 117, 110]⟩ : ByteArray) ++ ⟨lf.toArray⟩), .slice A9 n9 c9], .int .i64 0]) (by rw [results_cell_tmp rfl]; go_simp) rfl ⟨.slice A9 n9 c9, ?_, ?_, ?_⟩
                · rw [HG.out.1, HE.out, Hnf.out, ← Hf.out]
                · rw [HG.out.2, ← Heb.out, Hl9.out]
                  have hb22 := Hb22.out
                  exact ownsRow_base (ownsRow_setCell_below (a := ⟨w.heap.size + 1, 1, none⟩) (ownsRow_setCell_below (a := ⟨w.heap.size + 1, 0, none⟩) HO.out (by show w.heap.size + 1 < W0.heap.size; omega) _) (by show w.heap.size + 1 < W0.heap.size; omega) _) (by omega)
                · exact (H3r.out.setCell (p := ⟨w.heap.size + 1, 0, none⟩) (by show w.heap.size ≤ w.heap.size + 1; omega) _).setCell (p := ⟨w.heap.size + 1, 1, none⟩) (by show w.heap.size ≤ w.heap.size + 1; omega) _
  · subst hq2
    have HE := Lib.hid (emitE_chk (f := ⟨fn, regs, slots, need, params, rest, insts⟩) (words := words) (by rw [← Hq.out]; decide))
    have HB := Lib.hid (emit_bad HE.out)
    have h03 := Lib.hid (Hb2.out.trans (Z3.out.mono Hb2.out.size))
    go_wp2_with fail
    (try simp only [Exit.inBlock, Exit.then])
    refine bodyPost_ret (v := .tuple #[.agg #[.string ⟨#[]⟩, .slice none 0 0], .int .i64 2]) (by rw [results_cell_tmp rfl]; go_simp) rfl ⟨.slice none 0 0, ?_, ?_, ?_⟩
    · rw [HB.out.1, HE.out]; rfl
    · rw [HB.out.2]; exact World.ownsRow_nil _ _ _ _
    · exact (h03.out.setCell (p := ⟨w.heap.size + 1, 0, none⟩) (by show w.heap.size ≤ w.heap.size + 1; omega) _).setCell (p := ⟨w.heap.size + 1, 1, none⟩) (by show w.heap.size ≤ w.heap.size + 1; omega) _

end Go.Proofs.YtkdalaiponchbaaDoor
