/- Walk of emit.Emit. -/
import Derived.Test.YtidhglleeccpoaaDoorEEmP
import Derived.Laws.ResultCell
set_option linter.unusedVariables false
set_option linter.unusedSimpArgs false
set_option linter.unusedSectionVars false
namespace Go.Proofs.YtidhglleeccpoaaDoor
open Go.RowKit

/-- What emit.Emit leaves. -/
def EmitPost (f : S.VFunc) (words : List Int) (w : World) (e : Ending) (w' : World) : Prop :=
  ∃ v, e = .returned (.tuple #[.agg #[.string (S.emitName f words), v], .int .i64 (S.emitE f words)]) ∧ w'.ownsRow w.heap.size 39 8 v (S.emitItems f words).length ((S.emitItems f words).flatMap itemCells) ∧ Below w.heap.size w w'

theorem mk_entry (base mb : Nat) (wv : Value) (w : World) (hL : LVE w) (h3b : 3 ≤ base) (h : MkAt base mb wv [] w) (hbw : base ≤ w.heap.size) (f : S.VFunc) (I : Value) (hfn : I64 f.fn) (hh : headOk f) :
    Calls Tryd.prog 12 #[.pointer (some ⟨mb, 0, none⟩), .agg (vfCells f I)] w (MkPost base mb wv [] (S.eentry f) w) := by
  obtain ⟨fn, regs, slots, need, params, rest, insts⟩ := f
  unfold headOk at hh
  simp only at hh hfn
  obtain ⟨h1, h2, h3, h4, h5, h6⟩ := hh
  unfold vfCells
  cases rest with
  | true => exact en_rest base mb wv w hL h3b h hbw fn regs slots need params insts I hfn (by simp at h5; omega)
  | false =>
    by_cases hn : 0 < need
    · exact en_need base mb wv w hL h3b h hbw fn regs slots need params insts I hfn hn
    · exact en_none base mb wv w hL h3b h hbw fn regs slots need params insts I hfn hn

theorem two_cells (w : World) (a b : Obj) : ((w.alloc a).alloc b).heap[w.heap.size]? = some a ∧ ((w.alloc a).alloc b).heap[w.heap.size + 1]? = some b := by
  have h0 : (w.alloc a).heap.size = w.heap.size + 1 := by simp
  have b1 := (Below.refl (w.alloc a).heap.size (w.alloc a)).alloc (Nat.le_refl _) b
  refine ⟨?_, ?_⟩
  · rw [b1.block _ (by omega)]
    exact heap_alloc_new w a
  · rw [← h0]
    exact heap_alloc_new _ b
theorem U32s.more {w : World} {B B' : Nat} {A : Option Addr} {l : List Int} (h : U32s w B A l) (hB : B ≤ B') : U32s w B' A l :=
  ⟨h.1, fun hp => by
    obtain ⟨b, off, e, hb, hc⟩ := h.2 hp
    exact ⟨b, off, e, Nat.lt_of_lt_of_le hb hB, hc⟩⟩
/-- What the rounds keep. -/
structure EmR (base : Nat) (wv : Value) (xs : List S.Item) (w3 wl : World) : Prop where
  mkr : MkAt base base wv xs wl
  below : Below base w3 wl

theorem EmR.keep {base : Nat} {wv : Value} {xs : List S.Item} {w3 wl w' : World} (h : EmR base wv xs w3 wl) (hb : Below wl.heap.size wl w') : EmR base wv xs w3 w' :=
  ⟨h.mkr.keep hb, h.below.trans (hb.mono (Nat.le_of_lt h.mkr.lt))⟩
theorem EmR.step {base : Nat} {wv : Value} {xs ys : List S.Item} {w3 wl w' : World} (h : EmR base wv xs w3 wl) (h1 : MkAt base base wv (xs ++ ys) w') (h2 : BK base wl w') : EmR base wv (xs ++ ys) w3 w' :=
  ⟨h1, h.below.trans h2.below⟩

set_option maxRecDepth 100000 in
set_option maxHeartbeats 4000000 in
theorem e_Emit (f : S.VFunc) (A : Option Addr) (c : Nat) (xs : List VL) (hfi : f.insts = xs.map VL.i) (w : World) (hL : LVE w) (hv : VLs w w.heap.size A xs) (hok : ∀ x ∈ xs, VOk w w.heap.size x) (hlen : xs.length ≤ 300) (hs : f.slots ≤ 60000) (hfn : I64 f.fn)
    (W : Option Addr) (cW : Nat) (words : List Int) (hW : U32s w w.heap.size W words) (hWl : words.length ≤ 9223372036854775807) :
    Calls Tryd.prog 4 #[.agg (vfCells f (.slice A xs.length c)), .slice W words.length cW] w (EmitPost f words w) := by
  have hck := fun W hb => e_Chk f A c xs hfi W (hv.below hb |>.more (Below.size hb)) (fun x hx => ((hok x hx).below hb).more (Below.size hb)) hlen hs
  obtain ⟨q, hq⟩ : ∃ q, q = S.echk f := ⟨_, rfl⟩
  rw [← hq] at hck
  have Hck := Lib.hid hck
  clear hck
  have Hq := Lib.hid hq
  have hq02 := echk_02 f
  rw [← hq] at hq02
  clear hq
  obtain ⟨fn, regs, slots, need, params, rest, insts⟩ := f
  unfold vfCells at *
  simp only at hfi hs hfn
  obtain ⟨N, hN⟩ : ∃ N : Nat, N = xs.length := ⟨_, rfl⟩
  obtain ⟨NW, hNW⟩ : ∃ NW : Nat, NW = words.length := ⟨_, rfl⟩
  rw [← hN] at hlen Hck ⊢
  rw [← hNW] at hWl ⊢
  have HN := Lib.hid hN
  have HNW := Lib.hid hNW
  have HNl := Lib.hid (show insts.length = N by rw [hfi, List.length_map, ← hN])
  have Hins := Lib.hid (show ∀ (k : Nat) (x : VL), xs[k]? = some x → insts[k]? = some x.i from fun k x hx => by rw [hfi, List.getElem?_map, hx]; rfl)
  have Hv := Lib.hid hv
  have Hok := Lib.hid hok
  have HW := Lib.hid hW
  have HL := Lib.hid hL
  have Hfi := Lib.hid hfi
  clear hv hok hW hL hN hNW hfi
  have Hb2 := Lib.hid (show Below w.heap.size w ((w.alloc (.cells #[.int .i64 fn, .int .i64 regs, .int .i64 slots, .int .i64 need, .int .i64 params, .bool rest, .slice A N c] 28)).alloc (.cells #[.string ⟨#[]⟩, .slice none 0 0] 31)) from ((Below.refl _ _).alloc (Nat.le_refl _) _).alloc (by simp) _)
  have Hb22 := Lib.hid (show ((w.alloc (.cells #[.int .i64 fn, .int .i64 regs, .int .i64 slots, .int .i64 need, .int .i64 params, .bool rest, .slice A N c] 28)).alloc (.cells #[.string ⟨#[]⟩, .slice none 0 0] 31)).heap.size = w.heap.size + 2 by simp)
  have Hc2 := Lib.hid (two_cells w (.cells #[.int .i64 fn, .int .i64 regs, .int .i64 slots, .int .i64 need, .int .i64 params, .bool rest, .slice A N c] 28) (.cells #[.string ⟨#[]⟩, .slice none 0 0] 31))
  rcases hq02 with hq0 | hq2
  · subst hq0
    go_enter Tryd.func4, Tryd.ntmps4
    go_wp2_with fail
    refine (Hck.out _ Hb2.out).mono ?_
    rintro e w3 ⟨rfl, hb3⟩
    have hz3 : w.heap.size + 2 ≤ w3.heap.size := by have := hb3.size; rw [Hb22.out] at this; exact this
    have hbb := (hb3.block w.heap.size (by rw [Hb22.out]; omega)).trans Hc2.out.1
    have hob := (hb3.block (w.heap.size + 1) (by rw [Hb22.out]; omega)).trans Hc2.out.2
    have h03 := Hb2.out.trans (hb3.mono Hb2.out.size)
    have Hbb := Lib.hid hbb
    have Hob := Lib.hid hob
    have H03 := Lib.hid h03
    have HL3 := Lib.hid (HL.out.on h03)
    obtain ⟨F0, F1⟩ := echk_facts (f := ⟨fn, regs, slots, need, params, rest, insts⟩) Hq.out.symm
    have HF0 := Lib.hid F0
    have HF1 := Lib.hid F1
    clear hb3 F0 F1
    go_upto_region 5 with fail
    have hmk : MkAt w3.heap.size w3.heap.size (.slice W NW cW) [] (w3.alloc (.cells #[.slice none 0 0, .slice W NW cW] 54)) := ⟨Nat.le_refl _, .slice none 0 0, heap_alloc_new w3 _, World.ownsRow_nil _ _ _ _⟩
    have hb34 : Below w3.heap.size w3 (w3.alloc (.cells #[.slice none 0 0, .slice W NW cW] 54)) := (Below.refl _ _).alloc (Nat.le_refl _) _
    generalize w3.alloc (.cells #[.slice none 0 0, .slice W NW cW] 54) = w4 at *
    have hbb4 := (hb34.block w.heap.size (by omega)).trans hbb
    have HC := fun j => (show w4.cell? ⟨w.heap.size, j, none⟩ = #[.int .i64 fn, .int .i64 regs, .int .i64 slots, .int .i64 need, .int .i64 params, .bool rest, .slice A N c][j]? by rw [Lib.cell_of_heap hbb4])
    have p0 := HC 0
    have p1 := HC 1
    have p2 := HC 2
    have p3 := HC 3
    have p4 := HC 4
    have p5 := HC 5
    have p6 := HC 6
    simp only [List.getElem?_toArray, List.getElem?_cons_zero, List.getElem?_cons_succ] at p0 p1 p2 p3 p4 p5 p6
    have hent := mk_entry w3.heap.size w3.heap.size (.slice W NW cW) w4 (HL3.out.on hb34) (Nat.le_trans HL.out.size H03.out.size) hmk hb34.size ⟨fn, regs, slots, need, params, rest, insts⟩ (.slice A N c) hfn HF0.out
    unfold vfCells at hent
    simp only at hent
    have Hent := Lib.hid hent
    have Hb34 := Lib.hid hb34
    clear HC hbb hob h03 hbb4 hent hb34 hmk
    go_wp2_with fail
    refine Hent.out.mono ?_
    rintro e w5 ⟨rfl, hm5, hb5⟩
    rw [List.nil_append] at hm5
    have HM5 := Lib.hid (EmR.mk hm5 (Hb34.out.trans hb5.below))
    have p6' : w5.cell? ⟨w.heap.size, 6, none⟩ = some (.slice A N c) := (hb5.below.cell (p := ⟨w.heap.size, 6, none⟩) (by show w.heap.size < w3.heap.size; omega)).trans p6
    clear p0 p1 p2 p3 p4 p5 p6 hm5 hb5 Hent
    obtain ⟨eb, heb⟩ : ∃ eb, eb = S.eentry ⟨fn, regs, slots, need, params, rest, insts⟩ := ⟨_, rfl⟩
    rw [← heb] at HM5
    have Heb := Lib.hid heb
    clear heb
    go_wp2_with fail
    clear p6'
    go_loopw [9, 25, 32, 49, 69] (fun _ v25 _ _ _ wl => ∃ k : Nat, k ≤ N ∧ v25 = .int .i64 k ∧ Hid (EmR w3.heap.size (.slice W NW cW) (eb ++ (insts.take k).flatMap (S.eitems words)) w3 wl) ∧ Hid (∀ i ∈ insts.take k, S.dataOk words i = true)) (fun _ v25 _ _ _ _ => N - (intOf v25).toNat)
    case atStart => exact ⟨0, by omega, rfl, Lib.hid (by simpa using HM5.out), Lib.hid (by simp)⟩
    case round =>
      obtain ⟨k, hk, rfl, HR, HD⟩ := hrel
      by_cases hlt : k < N
      · have hkx : k < xs.length := by rw [← HN.out]; exact hlt
        have hz3b : w3.heap.size < wr.heap.size := HR.out.mkr.lt
        have h3r := H03.out.trans (HR.out.below.mono H03.out.size)
        obtain ⟨b, off, x, hAe, hbB, hge, hVA⟩ := ((Hv.out.below h3r)).at_ hkx
        subst hAe
        have Hox := Lib.hid (((Hok.out x (List.mem_of_getElem? hge)).below h3r).more H03.out.size)
        have hmem : x.i ∈ insts := List.mem_of_getElem? (Hins.out k x hge)
        obtain ⟨hein, hops⟩ := HF1.out x.i hmem
        obtain ⟨e1, e2, e3⟩ := einst_facts hein
        have He1 := Lib.hid e1
        have He2 := Lib.hid e2
        have He3 := Lib.hid e3
        have Hmem := Lib.hid hmem
        have Hil := Lib.hid ((mv_split insts k x.i (Hins.out k x hge)).2)
        have HWr := Lib.hid ((HW.out.below h3r))
        have HLr := Lib.hid (HL.out.on h3r)
        have hll : (eb ++ (insts.take k).flatMap (S.eitems words)).length ≤ 890000000 := by
          have h1 := eentry_len ⟨fn, regs, slots, need, params, rest, insts⟩
          rw [← Heb.out] at h1
          have h2 := flat_len words (insts.take k) (fun i hi s hs' => by
            have h9 := (einst_facts (HF1.out i (List.mem_of_mem_take hi)).1).2.1 s hs'
            have h10 : s < slots := h9.2
            omega)
          rw [List.length_take] at h2
          rw [List.length_append]
          omega
        have Hll := Lib.hid hll
        have Hwr := Lib.hid h3r
        obtain ⟨q0, q1, q2, q3, q4, q5, q6, q7⟩ := hVA
        clear hge hmem hein e1 e2 e3 h3r hll
        cases hda : S.dataOk words x.i with
        | false =>
          have Hda := Lib.hid hda
          have h71 : x.i.op = 71 ∧ (x.i.imm < 0 ∨ (NW : Int) ≤ x.i.imm) := by
            unfold S.dataOk at hda
            have := of_decide_eq_false hda
            rw [HNW.out]
            exact Classical.not_not.1 this
          obtain ⟨h71, h72⟩ := h71
          rw [h71] at q0
          clear hda h71
          have HE := Lib.hid (emitE_data (f := ⟨fn, regs, slots, need, params, rest, insts⟩) (words := words) Hmem.out Hda.out)
          have HB := Lib.hid (emit_bad HE.out)
          have hob := ((HR.out.below.block (w.heap.size + 1) (by omega)).trans Hob.out)
          have o0 : wr.cell? ⟨w.heap.size + 1, 0, none⟩ = some (.string ⟨#[]⟩) := by rw [Lib.cell_of_heap hob]; rfl
          have o1 : wr.cell? ⟨w.heap.size + 1, 1, none⟩ = some (.slice none 0 0) := by rw [Lib.cell_of_heap hob]; rfl
          have g0 : wr.frozen? ⟨w.heap.size + 1, 0, none⟩ = false := Lib.frozen_of_heap hob 0
          have g1 : wr.frozen? ⟨w.heap.size + 1, 1, none⟩ = false := Lib.frozen_of_heap hob 1
          have hlt1 : w.heap.size + 1 < wr.heap.size := by omega
          clear hob
          have h72' : x.i.imm < 0 ∨ (0 ≤ x.i.imm ∧ (NW : Int) ≤ x.i.imm) := by omega
          clear h72
          rcases h72' with h72 | ⟨h72, h73⟩
          all_goals
            go_wp2_with fail
            (try simp only [Exit.inBlock, Exit.then])
            refine bodyPost_ret (v := .tuple #[.agg #[.string ⟨#[]⟩, .slice none 0 0], .int .i64 2]) (by rw [results_cell_tmp rfl]; go_simp) rfl ⟨.slice none 0 0, ?_, ?_, ?_⟩
            · rw [HB.out.1, HE.out]; rfl
            · rw [HB.out.2]; exact World.ownsRow_nil _ _ _ _
            · exact ((Hwr.out.setCell (p := ⟨w.heap.size + 1, 0, none⟩) (by show w.heap.size ≤ w.heap.size + 1; omega) _).setCell (p := ⟨w.heap.size + 1, 1, none⟩) (by show w.heap.size ≤ w.heap.size + 1; omega) _).alloc (by simp [World.setCell]; omega) _
        | true =>
          have HD2 : Hid (∀ i ∈ insts.take (k + 1), S.dataOk words i = true) := Lib.hid (fun i hi => by
            rw [Hil.out] at hi
            rcases List.mem_append.1 hi with hi | hi
            · exact HD.out i hi
            · have : i = x.i := by simpa using hi
              rw [this]; exact hda)
          have hops' : (1 ≤ x.i.op ∧ x.i.op < 26) ∨ (26 ≤ x.i.op ∧ x.i.op ≤ 31) ∨ (64 ≤ x.i.op ∧ x.i.op ≤ 74 ∧ x.i.op ≠ 71) ∨ x.i.op = 71 := by omega
          rcases hops' with ⟨o, o'⟩ | ⟨o, o'⟩ | ⟨o, o', o''⟩ | o
          · have n71 : ¬ x.i.op = 71 := by omega
            have n26 : ¬ 26 ≤ x.i.op := by omega
            have n64 : x.i.op < 64 := by omega
            have hbA : Below wr.heap.size wr (wr.alloc (.cells #[.int .i64 x.i.op, .int .i64 x.i.d, .int .i64 x.i.a, .int .i64 x.i.b, .int .i64 x.i.imm, .int .i64 x.i.label, .slice x.U x.i.uses.length x.cu, .slice x.M x.i.map.length x.cm] 25)) := (Below.refl _ _).alloc (Nat.le_refl _) _
            have HA := Lib.hid (HR.out.keep hbA)
            have HLA := Lib.hid (HLr.out.on hbA)
            have hbase : w3.heap.size ≤ (wr.alloc (.cells #[.int .i64 x.i.op, .int .i64 x.i.d, .int .i64 x.i.a, .int .i64 x.i.b, .int .i64 x.i.imm, .int .i64 x.i.label, .slice x.U x.i.uses.length x.cu, .slice x.M x.i.map.length x.cm] 25)).heap.size := Nat.le_of_lt (Nat.lt_of_lt_of_le hz3b hbA.size)
            have hvi := mk_inst w3.heap.size w3.heap.size (.slice W NW cW) _ (wr.alloc (.cells #[.int .i64 x.i.op, .int .i64 x.i.d, .int .i64 x.i.a, .int .i64 x.i.b, .int .i64 x.i.imm, .int .i64 x.i.label, .slice x.U x.i.uses.length x.cu, .slice x.M x.i.map.length x.cm] 25)) HA.out.mkr hbase (by have := Hll.out; omega) x.i.op x.i.d x.i.a x.i.b x.i.imm
            rw [← eitems_plain words x.i o'] at hvi
            have Hvi := Lib.hid hvi
            clear hvi hbA
            go_wp2_with fail
            refine Hvi.out.mono ?_
            rintro e w9 ⟨rfl, hm9, hb9⟩
            have HM9 := Lib.hid (HA.out.step hm9 hb9)
            clear hm9 hb9
            go_wp2_with fail
            go_roundw
            case rel =>
              refine ⟨k + 1, by omega, by go_num, Lib.hid ?_, HD2⟩
              rw [Hil.out, List.flatMap_append, List.flatMap_singleton, ← List.append_assoc]
              exact HM9.out
            case measure => simp [intOf]; omega
          · have n71 : ¬ x.i.op = 71 := by omega
            have hbA : Below wr.heap.size wr (wr.alloc (.cells #[.int .i64 x.i.op, .int .i64 x.i.d, .int .i64 x.i.a, .int .i64 x.i.b, .int .i64 x.i.imm, .int .i64 x.i.label, .slice x.U x.i.uses.length x.cu, .slice x.M x.i.map.length x.cm] 25)) := (Below.refl _ _).alloc (Nat.le_refl _) _
            have HA := Lib.hid (HR.out.keep hbA)
            have HLA := Lib.hid (HLr.out.on hbA)
            have hbase : w3.heap.size ≤ (wr.alloc (.cells #[.int .i64 x.i.op, .int .i64 x.i.d, .int .i64 x.i.a, .int .i64 x.i.b, .int .i64 x.i.imm, .int .i64 x.i.label, .slice x.U x.i.uses.length x.cu, .slice x.M x.i.map.length x.cm] 25)).heap.size := Nat.le_of_lt (Nat.lt_of_lt_of_le hz3b hbA.size)
            have hcA := fun j => cell_row_new wr #[.int .i64 x.i.op, .int .i64 x.i.d, .int .i64 x.i.a, .int .i64 x.i.b, .int .i64 x.i.imm, .int .i64 x.i.label, .slice x.U x.i.uses.length x.cu, .slice x.M x.i.map.length x.cm] 25 j
            go_upto_region 13 with fail
            have hltA : wr.heap.size < (wr.alloc (.cells #[.int .i64 x.i.op, .int .i64 x.i.d, .int .i64 x.i.a, .int .i64 x.i.b, .int .i64 x.i.imm, .int .i64 x.i.label, .slice x.U x.i.uses.length x.cu, .slice x.M x.i.map.length x.cm] 25)).heap.size := by simp
            generalize wr.alloc (.cells #[.int .i64 x.i.op, .int .i64 x.i.d, .int .i64 x.i.a, .int .i64 x.i.b, .int .i64 x.i.imm, .int .i64 x.i.label, .slice x.U x.i.uses.length x.cu, .slice x.M x.i.map.length x.cm] 25) = wA at *
            have c0 := hcA 0
            have c2 := hcA 2
            have c3 := hcA 3
            have c5 := hcA 5
            simp only [List.getElem?_toArray, List.getElem?_cons_zero, List.getElem?_cons_succ] at c0 c2 c3 c5
            clear hcA
            have Hlab := Lib.hid (fun y : Ext wA => e_own x.i.label Hox.out.label y.val (HLA.out.on y.property))
            have Hei := Lib.hid (eitems_branch words x.i ⟨o, o'⟩)
            refine wp_region_ext_tail 10 (by kernel_rfl) (by kernel_rfl) ?_
            have hE := ext_cells wA
            simp only [List.take_succ_cons, List.take_zero, List.drop_succ_cons, List.drop_zero]
            repeat (first
              | go_big_quiet_step ((go_at_call 14; exact ext_of (Hlab.out _))))
            refine wpQuiet_nil ?_
            rintro w8 ⟨⟨_, hb8⟩, rfl⟩
            have H8 := Lib.hid (HA.out.keep hb8)
            have hvi := mk_branch w3.heap.size w3.heap.size (.slice W NW cW) _ w8 H8.out.mkr (Nat.le_trans hbase hb8.size) (by have := Hll.out; omega) x.i.op x.i.a x.i.b (S.own x.i.label)
            rw [← Hei.out] at hvi
            have Hvi := Lib.hid hvi
            clear hvi hb8 hE hbA c0 c2 c3 c5
            go_wp2_with fail
            refine Hvi.out.mono ?_
            rintro e w9 ⟨rfl, hm9, hb9⟩
            have HM9 := Lib.hid (H8.out.step hm9 hb9)
            clear hm9 hb9
            go_wp2_with fail
            go_roundw
            case rel =>
              refine ⟨k + 1, by omega, by go_num, Lib.hid ?_, HD2⟩
              rw [Hil.out, List.flatMap_append, List.flatMap_singleton, ← List.append_assoc]
              exact HM9.out
            case measure => simp [intOf]; omega
          · have n26 : 26 ≤ x.i.op := by omega
            have n31 : ¬ x.i.op ≤ 31 := by omega
            have n64 : ¬ x.i.op < 64 := by omega
            have hbA : Below wr.heap.size wr (wr.alloc (.cells #[.int .i64 x.i.op, .int .i64 x.i.d, .int .i64 x.i.a, .int .i64 x.i.b, .int .i64 x.i.imm, .int .i64 x.i.label, .slice x.U x.i.uses.length x.cu, .slice x.M x.i.map.length x.cm] 25)) := (Below.refl _ _).alloc (Nat.le_refl _) _
            have HA := Lib.hid (HR.out.keep hbA)
            have HLA := Lib.hid (HLr.out.on hbA)
            have hbase : w3.heap.size ≤ (wr.alloc (.cells #[.int .i64 x.i.op, .int .i64 x.i.d, .int .i64 x.i.a, .int .i64 x.i.b, .int .i64 x.i.imm, .int .i64 x.i.label, .slice x.U x.i.uses.length x.cu, .slice x.M x.i.map.length x.cm] 25)).heap.size := Nat.le_of_lt (Nat.lt_of_lt_of_le hz3b hbA.size)
            have hvi := mk_virtual w3.heap.size w3.heap.size _ (wr.alloc (.cells #[.int .i64 x.i.op, .int .i64 x.i.d, .int .i64 x.i.a, .int .i64 x.i.b, .int .i64 x.i.imm, .int .i64 x.i.label, .slice x.U x.i.uses.length x.cu, .slice x.M x.i.map.length x.cm] 25)) W cW words HLA.out (Nat.le_trans HL.out.size H03.out.size) (by rw [← HNW.out]; exact HA.out.mkr) hbase Hll.out (((HWr.out).below (hbA.mono (Nat.le_trans H03.out.size (Nat.le_of_lt hz3b)))).more H03.out.size) x.i (by omega) Hox.out.label Hox.out.imm (.slice x.U x.i.uses.length x.cu) x.M x.cm (Hox.out.mp.below (hbA.mono (Nat.le_of_lt hz3b))) He1.out (fun s hs' => by have h9 := He2.out s hs'; have h10 : s < slots := h9.2; omega) (by have := Hox.out.ml; omega) (fun h => by have h9 := He3.out h; have h10 : x.i.imm < slots := h9.2; omega) (fun h => absurd h o'')
            rw [← HNW.out] at hvi
            unfold viCells at hvi
            have Hvi := Lib.hid hvi
            clear hvi hbA
            go_wp2_with fail
            refine Hvi.out.mono ?_
            rintro e w9 ⟨rfl, hm9, hb9⟩
            have HM9 := Lib.hid (HA.out.step hm9 hb9)
            clear hm9 hb9
            go_wp2_with fail
            go_roundw
            case rel =>
              refine ⟨k + 1, by omega, by go_num, Lib.hid ?_, HD2⟩
              rw [Hil.out, List.flatMap_append, List.flatMap_singleton, ← List.append_assoc]
              exact HM9.out
            case measure => simp [intOf]; omega
          · have hd71 : 0 ≤ x.i.imm ∧ x.i.imm < (words.length : Int) := by
              unfold S.dataOk at hda
              have := of_decide_eq_true hda
              omega
            have hd72 := hd71.2
            rw [← HNW.out] at hd72
            have n1 : ¬ x.i.imm < 0 := by omega
            have n2 : ¬ (NW : Int) ≤ x.i.imm := by omega
            rw [o] at q0
            have hbA : Below wr.heap.size wr (wr.alloc (.cells #[.int .i64 71, .int .i64 x.i.d, .int .i64 x.i.a, .int .i64 x.i.b, .int .i64 x.i.imm, .int .i64 x.i.label, .slice x.U x.i.uses.length x.cu, .slice x.M x.i.map.length x.cm] 25)) := (Below.refl _ _).alloc (Nat.le_refl _) _
            have HA := Lib.hid (HR.out.keep hbA)
            have HLA := Lib.hid (HLr.out.on hbA)
            have hbase : w3.heap.size ≤ (wr.alloc (.cells #[.int .i64 71, .int .i64 x.i.d, .int .i64 x.i.a, .int .i64 x.i.b, .int .i64 x.i.imm, .int .i64 x.i.label, .slice x.U x.i.uses.length x.cu, .slice x.M x.i.map.length x.cm] 25)).heap.size := Nat.le_of_lt (Nat.lt_of_lt_of_le hz3b hbA.size)
            have hvi := mk_virtual w3.heap.size w3.heap.size _ (wr.alloc (.cells #[.int .i64 71, .int .i64 x.i.d, .int .i64 x.i.a, .int .i64 x.i.b, .int .i64 x.i.imm, .int .i64 x.i.label, .slice x.U x.i.uses.length x.cu, .slice x.M x.i.map.length x.cm] 25)) W cW words HLA.out (Nat.le_trans HL.out.size H03.out.size) (by rw [← HNW.out]; exact HA.out.mkr) hbase Hll.out (((HWr.out).below (hbA.mono (Nat.le_trans H03.out.size (Nat.le_of_lt hz3b)))).more H03.out.size) x.i (by omega) Hox.out.label Hox.out.imm (.slice x.U x.i.uses.length x.cu) x.M x.cm (Hox.out.mp.below (hbA.mono (Nat.le_of_lt hz3b))) He1.out (fun s hs' => by have h9 := He2.out s hs'; have h10 : s < slots := h9.2; omega) (by have := Hox.out.ml; omega) (fun h => by have h9 := He3.out h; have h10 : x.i.imm < slots := h9.2; omega) (fun _ => hd71)
            rw [← HNW.out] at hvi
            unfold viCells at hvi
            rw [o] at hvi
            have Hvi := Lib.hid hvi
            clear hvi hbA
            go_wp2_with fail
            refine Hvi.out.mono ?_
            rintro e w9 ⟨rfl, hm9, hb9⟩
            have HM9 := Lib.hid (HA.out.step hm9 hb9)
            clear hm9 hb9
            go_wp2_with fail
            go_roundw
            case rel =>
              refine ⟨k + 1, by omega, by go_num, Lib.hid ?_, HD2⟩
              rw [Hil.out, List.flatMap_append, List.flatMap_singleton, ← List.append_assoc]
              exact HM9.out
            case measure => simp [intOf]; omega
      · have hkN : N = k := by omega
        subst hkN
        have ht : insts.take N = insts := by rw [← HNl.out, List.take_length]
        rw [ht] at HR HD
        have HE := Lib.hid (emitE_ok (f := ⟨fn, regs, slots, need, params, rest, insts⟩) (words := words) Hq.out.symm HD.out)
        have HG := Lib.hid (emit_good HE.out)
        have hz3b : w3.heap.size < wr.heap.size := HR.out.mkr.lt
        have Hwr := Lib.hid (H03.out.trans (HR.out.below.mono H03.out.size))
        obtain ⟨hmb, v, hv1, hv2⟩ := HR.out.mkr
        obtain ⟨Av, cv, rfl⟩ := ownsRow_form hv2
        obtain ⟨nv, hnv⟩ : ∃ nv, nv = (eb ++ insts.flatMap (S.eitems words)).length := ⟨_, rfl⟩
        rw [← hnv] at hv1 hv2
        have Hnv := Lib.hid hnv
        clear hnv
        have hbbr := (HR.out.below.block w.heap.size (by omega)).trans Hbb.out
        have cf : wr.cell? ⟨w.heap.size, 0, none⟩ = some (.int .i64 fn) := by rw [Lib.cell_of_heap hbbr]; rfl
        have cm : wr.cell? ⟨w3.heap.size, 0, none⟩ = some (.slice Av nv cv) := by rw [Lib.cell_of_heap hv1]; rfl
        have hob := ((HR.out.below.block (w.heap.size + 1) (by omega)).trans Hob.out)
        have Hob2 := Lib.hid hob
        have Hv2 := Lib.hid hv2
        have Hs := Lib.hid (str_app [102, 117, 110] (S.itoa fn))
        have hl := itoa_len fn
        have Hlab := Lib.hid (show S.lab [102, 117, 110] fn = ⟨([102, 117, 110] ++ S.itoa fn).toArray⟩ from rfl)
        have Hit := Lib.hid (fun y : Ext wr => e_Itoa fn hfn y.val (((HL.out.on Hwr.out).on y.property)))
        have hlt0 : w.heap.size < wr.heap.size := by omega
        generalize S.itoa fn = lf at *
        clear hob hbbr hv1 hv2 ht
        go_upto_region 17 with fail
        refine wp_region_ext_tail 9 (by kernel_rfl) (by kernel_rfl) ?_
        have hE := ext_cells wr
        simp only [List.take_succ_cons, List.take_zero, List.drop_succ_cons, List.drop_zero]
        repeat (first
          | go_big_quiet_step ((go_at_call 17; exact ext_of (Hit.out _))))
        refine wpQuiet_nil ?_
        rintro w8 ⟨⟨_, hb8⟩, rfl⟩
        have hob8 := (hb8.block (w.heap.size + 1) (by omega)).trans Hob2.out
        have o0 : w8.cell? ⟨w.heap.size + 1, 0, none⟩ = some (.string ⟨#[]⟩) := by rw [Lib.cell_of_heap hob8]; rfl
        have o1 : w8.cell? ⟨w.heap.size + 1, 1, none⟩ = some (.slice none 0 0) := by rw [Lib.cell_of_heap hob8]; rfl
        have g0 : w8.frozen? ⟨w.heap.size + 1, 0, none⟩ = false := Lib.frozen_of_heap hob8 0
        have g1 : w8.frozen? ⟨w.heap.size + 1, 1, none⟩ = false := Lib.frozen_of_heap hob8 1
        have hbw8 := Hwr.out.trans (hb8.mono Hwr.out.size)
        have Hb8 := Lib.hid hbw8
        have Ho8 := Lib.hid (ownsRow_below Hv2.out hb8)
        have hob8' := hob8
        clear hob8 hb8 hE cf cm hbw8
        go_wp2_with fail
        (try simp only [Exit.inBlock, Exit.then])
        have hn1 : (Value.slice Av nv cv).ownBlock ≠ some (w.heap.size + 1) := own_ne Ho8.out hob8' (by decide)
        refine bodyPost_ret (v := .tuple #[.agg #[.string (⟨#[102, 117, 110]⟩ ++ ⟨lf.toArray⟩), .slice Av nv cv], .int .i64 0]) (by rw [results_cell_tmp rfl]; go_simp) rfl ⟨.slice Av nv cv, ?_, ?_, ?_⟩
        · rw [HG.out.1, HE.out, Hlab.out, ← Hs.out]
        · rw [HG.out.2, ← Heb.out, ← Hnv.out]
          refine ownsRow_base (ownsRow_setCell_other (a := ⟨w.heap.size + 1, 1, none⟩) (ownsRow_setCell_other (a := ⟨w.heap.size + 1, 0, none⟩) Ho8.out hn1 _) hn1 _) H03.out.size
        · exact (Hb8.out.setCell (p := ⟨w.heap.size + 1, 0, none⟩) (by show w.heap.size ≤ w.heap.size + 1; omega) _).setCell (p := ⟨w.heap.size + 1, 1, none⟩) (by show w.heap.size ≤ w.heap.size + 1; omega) _
  · subst hq2
    have HE := Lib.hid (emitE_chk (f := ⟨fn, regs, slots, need, params, rest, insts⟩) (words := words) (by rw [← Hq.out]; decide))
    have HB := Lib.hid (emit_bad HE.out)
    go_enter Tryd.func4, Tryd.ntmps4
    go_wp2_with fail
    refine (Hck.out _ Hb2.out).mono ?_
    rintro e w3 ⟨rfl, hb3⟩
    have hob := (hb3.block (w.heap.size + 1) (by rw [Hb22.out]; omega)).trans Hc2.out.2
    have h03 := Lib.hid (Hb2.out.trans (hb3.mono Hb2.out.size))
    have o0 : w3.cell? ⟨w.heap.size + 1, 0, none⟩ = some (.string ⟨#[]⟩) := by rw [Lib.cell_of_heap hob]; rfl
    have o1 : w3.cell? ⟨w.heap.size + 1, 1, none⟩ = some (.slice none 0 0) := by rw [Lib.cell_of_heap hob]; rfl
    have g0 : w3.frozen? ⟨w.heap.size + 1, 0, none⟩ = false := Lib.frozen_of_heap hob 0
    have g1 : w3.frozen? ⟨w.heap.size + 1, 1, none⟩ = false := Lib.frozen_of_heap hob 1
    clear hob hb3
    go_wp2_with fail
    (try simp only [Exit.inBlock, Exit.then])
    refine bodyPost_ret (v := .tuple #[.agg #[.string ⟨#[]⟩, .slice none 0 0], .int .i64 2]) (by rw [results_cell_tmp rfl]; go_simp) rfl ⟨.slice none 0 0, ?_, ?_, ?_⟩
    · rw [HB.out.1, HE.out]; rfl
    · rw [HB.out.2]; exact World.ownsRow_nil _ _ _ _
    · exact (h03.out.setCell (p := ⟨w.heap.size + 1, 0, none⟩) (by show w.heap.size ≤ w.heap.size + 1; omega) _).setCell (p := ⟨w.heap.size + 1, 1, none⟩) (by show w.heap.size ≤ w.heap.size + 1; omega) _

end Go.Proofs.YtidhglleeccpoaaDoor
