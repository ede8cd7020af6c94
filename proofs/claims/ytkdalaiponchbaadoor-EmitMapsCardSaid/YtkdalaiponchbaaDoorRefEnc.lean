/- Walk of pennantref01.Encode, form by form (printed by genref.py). -/
import Derived.Test.YtkdalaiponchbaaDoorLay
import Derived.Deep.RegionWith
import Derived.Deep.DeepCutAuto
set_option linter.unusedVariables false
set_option linter.unusedSimpArgs false
set_option linter.unusedSectionVars false
namespace Go.Proofs.YtkdalaiponchbaaDoor
open Go.RowKit

set_option maxRecDepth 100000 in
set_option maxHeartbeats 2000000 in
theorem ref_Encode_1 (op d a b imm : Int) (w : World) (N : Int) (hN : N = val (layI op 6 ++ layI d 5 ++ layI a 5 ++ layI b 5 ++ List.replicate 11 0 ++ layI imm 0)) (hc : S.chk ⟨op, d, a, b, imm⟩ = 0) (hD : S.hasD (S.form op) = true) (hA : S.hasA (S.form op) = true) (hB : S.hasB (S.form op) = true) (hI : S.bitsOf (S.form op) = 0) :
    Calls Tryd.prog 86 #[.agg #[.int .i64 op, .int .i64 d, .int .i64 a, .int .i64 b, .int .i64 imm]] w
      fun e w' => e = .returned (.tuple #[.int .u32 N, .int .i64 0]) ∧ Below w.heap.size w w' := by
  have HN := Lib.hid hN
  clear hN
  go_enter Tryd.func86, Tryd.ntmps86
  go_wp2_with (go_at_call 107; refine (ref_Check _ _ _ _ _ _).mono ?_; rintro e w' ⟨rfl, hb⟩; obtain ⟨hc1, hc2⟩ := bcell hb; have hz : w.heap.size + 1 ≤ w'.heap.size := by simpa using hb.size)
  refine (ref_lay' (w.heap.size + 1) _ [] _ 6 6 rfl _ (by simpa using World.ownsRow_nil _ _ _ _) hz (by simp) (by omega)).mono ?_
  rintro e w1 ⟨v1, rfl, ho1, hb1⟩
  rw [List.nil_append] at ho1
  have hx1 : ∀ o, w1.cell? ⟨w.heap.size, o, none⟩ = w'.cell? ⟨w.heap.size, o, none⟩ := fun o => hb1.cell (by simp)
  have hz1 := Nat.le_trans hz hb1.size
  go_wp2_with (first
   | (go_at_call 109; refine (ref_HasD _ _).mono ?_; rintro e w' ⟨rfl, rfl⟩)
   | (go_at_call 110; refine (ref_HasA _ _).mono ?_; rintro e w' ⟨rfl, rfl⟩)
   | (go_at_call 111; refine (ref_HasB _ _).mono ?_; rintro e w' ⟨rfl, rfl⟩))
  refine (ref_lay' (w.heap.size + 1) _ _ _ 5 5 rfl _ ho1 hz1 (by simp [layI_length]) (by omega)).mono ?_
  rintro e w2 ⟨v2, rfl, ho2, hb2⟩
  have hx2 : ∀ o, w2.cell? ⟨w.heap.size, o, none⟩ = w1.cell? ⟨w.heap.size, o, none⟩ := fun o => hb2.cell (by simp)
  have hz2 := Nat.le_trans hz1 hb2.size
  go_wp2_with (first
   | (go_at_call 109; refine (ref_HasD _ _).mono ?_; rintro e w' ⟨rfl, rfl⟩)
   | (go_at_call 110; refine (ref_HasA _ _).mono ?_; rintro e w' ⟨rfl, rfl⟩)
   | (go_at_call 111; refine (ref_HasB _ _).mono ?_; rintro e w' ⟨rfl, rfl⟩))
  refine (ref_lay' (w.heap.size + 1) _ _ _ 5 5 rfl _ ho2 hz2 (by simp [layI_length]) (by omega)).mono ?_
  rintro e w3 ⟨v3, rfl, ho3, hb3⟩
  have hx3 : ∀ o, w3.cell? ⟨w.heap.size, o, none⟩ = w2.cell? ⟨w.heap.size, o, none⟩ := fun o => hb3.cell (by simp)
  have hz3 := Nat.le_trans hz2 hb3.size
  go_wp2_with (first
   | (go_at_call 109; refine (ref_HasD _ _).mono ?_; rintro e w' ⟨rfl, rfl⟩)
   | (go_at_call 110; refine (ref_HasA _ _).mono ?_; rintro e w' ⟨rfl, rfl⟩)
   | (go_at_call 111; refine (ref_HasB _ _).mono ?_; rintro e w' ⟨rfl, rfl⟩))
  refine (ref_lay' (w.heap.size + 1) _ _ _ 5 5 rfl _ ho3 hz3 (by simp [layI_length]) (by omega)).mono ?_
  rintro e w4 ⟨v4, rfl, ho4, hb4⟩
  have hx4 : ∀ o, w4.cell? ⟨w.heap.size, o, none⟩ = w3.cell? ⟨w.heap.size, o, none⟩ := fun o => hb4.cell (by simp)
  have hz4 := Nat.le_trans hz3 hb4.size
  go_wp2_with (first
   | (go_at_call 109; refine (ref_HasD _ _).mono ?_; rintro e w' ⟨rfl, rfl⟩)
   | (go_at_call 110; refine (ref_HasA _ _).mono ?_; rintro e w' ⟨rfl, rfl⟩)
   | (go_at_call 111; refine (ref_HasB _ _).mono ?_; rintro e w' ⟨rfl, rfl⟩))
  have hX : ∀ o, w4.cell? ⟨w.heap.size, o, none⟩ = (#[.int .i64 op, .int .i64 d, .int .i64 a, .int .i64 b, .int .i64 imm] : Array Value)[o]? := by
    intro o
    rw [hx4, hx3, hx2, hx1, hc1 _ _ (by simp)]
    exact cell_row_new _ _ _ _
  have hbel : Below w.heap.size w w4 := ((((((Below.refl _ _).alloc (Nat.le_refl _) _).trans (hb.mono (by simp))).trans (hb1.mono (by simp))).trans (hb2.mono (by simp))).trans (hb3.mono (by simp))).trans (hb4.mono (by simp))
  have hlen : (layI op 6 ++ layI d 5 ++ layI a 5 ++ layI b 5).length = 21 := by simp [layI_length]
  have Hlen := Lib.hid hlen
  clear hlen
  go_loopw [5] (fun v wr => ∃ k : Nat, k ≤ 11 ∧ wr.ownsRow (w.heap.size + 1) 5 1 v (21 + k) ((layI op 6 ++ layI d 5 ++ layI a 5 ++ layI b 5 ++ List.replicate k 0).map (Value.int .u8)) ∧ Below (w.heap.size + 1) w4 wr) (fun v _ => 32 - lenV v)
  case atStart => exact ⟨0, by omega, by rw [Hlen.out] at ho4; simpa using ho4, Below.refl _ _⟩
  case round =>
    obtain ⟨k, hk, ho, hbk⟩ := hrel
    obtain ⟨A, c, rfl⟩ := ownsRow_form ho
    have hXk : ∀ o, wr.cell? ⟨w.heap.size, o, none⟩ = (#[.int .i64 op, .int .i64 d, .int .i64 a, .int .i64 b, .int .i64 imm] : Array Value)[o]? := fun o => (hbk.cell (by simp)).trans (hX o)
    have hzk := Nat.le_trans hz4 hbk.size
    by_cases hlt : k < 11
    · go_wp2_with (first
        | (go_at_call 112; refine (ref_Bits _ _).mono ?_; rintro e w' ⟨rfl, rfl⟩)
        | (at_builtin
           refine wpList_push rfl (.tmp 44) (.tmp 45) _ rfl (w.heap.size + 1) 5 u8_info Tryd.underlying89 rfl (by decide) #[.int .u8 0] _ _ _ rfl ho rfl rfl rfl (by simp [Value.oneCell']) (by simp only [maxLen]; omega) (by omega) hzk ?_
           intro v' w' hown1 hg1 hbp1 hat1))
      go_roundw
      case rel =>
        refine ⟨k + 1, by omega, ?_, hbk.trans hbp1⟩
        rw [List.replicate_succ', ← List.append_assoc, List.map_append]
        exact hown1
      case measure =>
        obtain ⟨A', c', rfl⟩ := ownsRow_form hown1
        simp [lenV]; omega
    · have hkb : k = 11 := by omega
      subst hkb
      go_wp2_with (go_at_call 112; refine (ref_Bits _ _).mono ?_; rintro e w' ⟨rfl, rfl⟩)
      have hzk : w.heap.size + 1 ≤ wr.heap.size := hzk
      have hlk : (layI op 6 ++ layI d 5 ++ layI a 5 ++ layI b 5 ++ List.replicate 11 0).length = 32 := by rw [List.length_append, Hlen.out, List.length_replicate]
      have ho' : wr.ownsRow (w.heap.size + 1) 5 1 (Value.slice A 32 c) (layI op 6 ++ layI d 5 ++ layI a 5 ++ layI b 5 ++ List.replicate 11 0).length ((layI op 6 ++ layI d 5 ++ layI a 5 ++ layI b 5 ++ List.replicate 11 0).map (Value.int .u8)) := by rw [hlk]; exact ho
      have Hlk := Lib.hid hlk
      clear hlk ho
      go_cut [5] (fun v wx => wx.ownsRow (w.heap.size + 1) 5 1 v (layI op 6 ++ layI d 5 ++ layI a 5 ++ layI b 5 ++ List.replicate 11 0 ++ layI imm 0).length ((layI op 6 ++ layI d 5 ++ layI a 5 ++ layI b 5 ++ List.replicate 11 0 ++ layI imm 0).map (Value.int .u8)) ∧ Below (w.heap.size + 1) wr wx)
      case first =>
        go_region_with (first
          | (go_at_call 112; refine (ref_Bits _ _).mono ?_; rintro e w' ⟨rfl, rfl⟩)
          | (go_at_call 108; refine (ref_lay' (w.heap.size + 1) _ (layI op 6 ++ layI d 5 ++ layI a 5 ++ layI b 5 ++ List.replicate 11 0) _ 0 0 rfl _ (by exact ho') (by exact hzk) (by rw [Hlk.out]; omega) (by omega)).mono ?_; rintro e wy ⟨vy, rfl, hoy, hby⟩))
        all_goals (go_wp2_with fail; go_meet; exact ⟨hoy, by have := hby; exact ⟨this.os, this.tape, this.output, this.size, this.block⟩⟩)
      case rest =>
        obtain ⟨hov, hbv⟩ := hcut
        have h32 : (layI op 6 ++ layI d 5 ++ layI a 5 ++ layI b 5 ++ List.replicate 11 0 ++ layI imm 0).length = 32 := by rw [List.length_append, Hlk.out, layI_length]
        have h01 : ∀ x ∈ layI op 6 ++ layI d 5 ++ layI a 5 ++ layI b 5 ++ List.replicate 11 0 ++ layI imm 0, 0 ≤ x ∧ x ≤ 1 := by
          intro x hx
          simp only [List.mem_append, List.mem_replicate] at hx
          first
            | (rcases hx with ((((hx | hx) | hx) | hx) | hx) | hx <;> first | exact layI_01 _ _ _ hx | omega)
            | (rcases hx with (((hx | hx) | hx) | hx) | hx <;> first | exact layI_01 _ _ _ hx | omega)
            | (rcases hx with ((hx | hx) | hx) | hx <;> first | exact layI_01 _ _ _ hx | omega)
        rw [h32] at hov
        generalize hL : layI op 6 ++ layI d 5 ++ layI a 5 ++ layI b 5 ++ List.replicate 11 0 ++ layI imm 0 = L at *
        have HL := Lib.hid hL
        clear hL
        obtain ⟨A, c, rfl⟩ := ownsRow_form hov
        obtain ⟨g, rfl, _, _, _, hcells, _⟩ := ownsRow_at hov (by omega)
        have hbw : Below w.heap.size w wc := (hbel.trans (hbk.mono (by simp))).trans (hbv.mono (by simp))
        clear hx1 hc1 hc2 hX
        have H32 := Lib.hid h32
        clear h32
        go_wp2_with fail
        go_loop [6, 7] (fun t i => ∃ k : Nat, k ≤ 32 ∧ i = .int .i64 k ∧ t = .int .u32 (val (L.take k))) (fun _ i => 32 - (intOf i).toNat)
        case atStart => exact ⟨0, by omega, by simp, by simp [val]⟩
        case round =>
          obtain ⟨k, hk, rfl, rfl⟩ := hrel
          by_cases hlt : k < 32
          · obtain ⟨x, hx0, hx1, hx2, hx3, hx4, hx5⟩ := horner_step L H32.out h01 k hlt
            have hcx : wc.cell? ⟨g, k, none⟩ = some (.int .u8 x) := by rw [hcells k (by omega)]; exact hx0
            have Hx0 := Lib.hid hx0
            have Hx3 := Lib.hid hx3
            clear hx0 hx3 hcells
            go_wp2_with fail
            go_round
            case rel => exact ⟨k + 1, by omega, by go_num, by rw [Hx3.out]⟩
            case measure => simp [intOf]; omega
          · have hkb : k = 32 := by omega
            subst hkb
            go_wp2_with fail
            go_ret2
            refine ⟨ret_pair ?_ rfl, hbw⟩
            rw [List.take_of_length_le (by rw [H32.out]; omega), HN.out]

set_option maxRecDepth 100000 in
set_option maxHeartbeats 2000000 in
theorem ref_Encode_2 (op d a b imm : Int) (w : World) (N : Int) (hN : N = val (layI op 6 ++ layI d 5 ++ layI a 5 ++ List.replicate 0 0 ++ layI imm 16)) (hc : S.chk ⟨op, d, a, b, imm⟩ = 0) (hD : S.hasD (S.form op) = true) (hA : S.hasA (S.form op) = true) (hB : S.hasB (S.form op) = false) (hI : S.bitsOf (S.form op) = 16) :
    Calls Tryd.prog 86 #[.agg #[.int .i64 op, .int .i64 d, .int .i64 a, .int .i64 b, .int .i64 imm]] w
      fun e w' => e = .returned (.tuple #[.int .u32 N, .int .i64 0]) ∧ Below w.heap.size w w' := by
  have HN := Lib.hid hN
  clear hN
  go_enter Tryd.func86, Tryd.ntmps86
  go_wp2_with (go_at_call 107; refine (ref_Check _ _ _ _ _ _).mono ?_; rintro e w' ⟨rfl, hb⟩; obtain ⟨hc1, hc2⟩ := bcell hb; have hz : w.heap.size + 1 ≤ w'.heap.size := by simpa using hb.size)
  refine (ref_lay' (w.heap.size + 1) _ [] _ 6 6 rfl _ (by simpa using World.ownsRow_nil _ _ _ _) hz (by simp) (by omega)).mono ?_
  rintro e w1 ⟨v1, rfl, ho1, hb1⟩
  rw [List.nil_append] at ho1
  have hx1 : ∀ o, w1.cell? ⟨w.heap.size, o, none⟩ = w'.cell? ⟨w.heap.size, o, none⟩ := fun o => hb1.cell (by simp)
  have hz1 := Nat.le_trans hz hb1.size
  go_wp2_with (first
   | (go_at_call 109; refine (ref_HasD _ _).mono ?_; rintro e w' ⟨rfl, rfl⟩)
   | (go_at_call 110; refine (ref_HasA _ _).mono ?_; rintro e w' ⟨rfl, rfl⟩)
   | (go_at_call 111; refine (ref_HasB _ _).mono ?_; rintro e w' ⟨rfl, rfl⟩))
  refine (ref_lay' (w.heap.size + 1) _ _ _ 5 5 rfl _ ho1 hz1 (by simp [layI_length]) (by omega)).mono ?_
  rintro e w2 ⟨v2, rfl, ho2, hb2⟩
  have hx2 : ∀ o, w2.cell? ⟨w.heap.size, o, none⟩ = w1.cell? ⟨w.heap.size, o, none⟩ := fun o => hb2.cell (by simp)
  have hz2 := Nat.le_trans hz1 hb2.size
  go_wp2_with (first
   | (go_at_call 109; refine (ref_HasD _ _).mono ?_; rintro e w' ⟨rfl, rfl⟩)
   | (go_at_call 110; refine (ref_HasA _ _).mono ?_; rintro e w' ⟨rfl, rfl⟩)
   | (go_at_call 111; refine (ref_HasB _ _).mono ?_; rintro e w' ⟨rfl, rfl⟩))
  refine (ref_lay' (w.heap.size + 1) _ _ _ 5 5 rfl _ ho2 hz2 (by simp [layI_length]) (by omega)).mono ?_
  rintro e w3 ⟨v3, rfl, ho3, hb3⟩
  have hx3 : ∀ o, w3.cell? ⟨w.heap.size, o, none⟩ = w2.cell? ⟨w.heap.size, o, none⟩ := fun o => hb3.cell (by simp)
  have hz3 := Nat.le_trans hz2 hb3.size
  go_wp2_with (first
   | (go_at_call 109; refine (ref_HasD _ _).mono ?_; rintro e w' ⟨rfl, rfl⟩)
   | (go_at_call 110; refine (ref_HasA _ _).mono ?_; rintro e w' ⟨rfl, rfl⟩)
   | (go_at_call 111; refine (ref_HasB _ _).mono ?_; rintro e w' ⟨rfl, rfl⟩))
  have hX : ∀ o, w3.cell? ⟨w.heap.size, o, none⟩ = (#[.int .i64 op, .int .i64 d, .int .i64 a, .int .i64 b, .int .i64 imm] : Array Value)[o]? := by
    intro o
    rw [hx3, hx2, hx1, hc1 _ _ (by simp)]
    exact cell_row_new _ _ _ _
  have hbel : Below w.heap.size w w3 := (((((Below.refl _ _).alloc (Nat.le_refl _) _).trans (hb.mono (by simp))).trans (hb1.mono (by simp))).trans (hb2.mono (by simp))).trans (hb3.mono (by simp))
  have hlen : (layI op 6 ++ layI d 5 ++ layI a 5).length = 16 := by simp [layI_length]
  have Hlen := Lib.hid hlen
  clear hlen
  go_loopw [5] (fun v wr => ∃ k : Nat, k ≤ 0 ∧ wr.ownsRow (w.heap.size + 1) 5 1 v (16 + k) ((layI op 6 ++ layI d 5 ++ layI a 5 ++ List.replicate k 0).map (Value.int .u8)) ∧ Below (w.heap.size + 1) w3 wr) (fun v _ => 32 - lenV v)
  case atStart => exact ⟨0, by omega, by rw [Hlen.out] at ho3; simpa using ho3, Below.refl _ _⟩
  case round =>
    obtain ⟨k, hk, ho, hbk⟩ := hrel
    obtain ⟨A, c, rfl⟩ := ownsRow_form ho
    have hXk : ∀ o, wr.cell? ⟨w.heap.size, o, none⟩ = (#[.int .i64 op, .int .i64 d, .int .i64 a, .int .i64 b, .int .i64 imm] : Array Value)[o]? := fun o => (hbk.cell (by simp)).trans (hX o)
    have hzk := Nat.le_trans hz3 hbk.size
    by_cases hlt : k < 0
    · omega
    · have hkb : k = 0 := by omega
      subst hkb
      go_wp2_with (go_at_call 112; refine (ref_Bits _ _).mono ?_; rintro e w' ⟨rfl, rfl⟩)
      have hzk : w.heap.size + 1 ≤ wr.heap.size := hzk
      have hlk : (layI op 6 ++ layI d 5 ++ layI a 5 ++ List.replicate 0 0).length = 16 := by rw [List.length_append, Hlen.out, List.length_replicate]
      have ho' : wr.ownsRow (w.heap.size + 1) 5 1 (Value.slice A 16 c) (layI op 6 ++ layI d 5 ++ layI a 5 ++ List.replicate 0 0).length ((layI op 6 ++ layI d 5 ++ layI a 5 ++ List.replicate 0 0).map (Value.int .u8)) := by rw [hlk]; exact ho
      have Hlk := Lib.hid hlk
      clear hlk ho
      go_cut [5] (fun v wx => wx.ownsRow (w.heap.size + 1) 5 1 v (layI op 6 ++ layI d 5 ++ layI a 5 ++ List.replicate 0 0 ++ layI imm 16).length ((layI op 6 ++ layI d 5 ++ layI a 5 ++ List.replicate 0 0 ++ layI imm 16).map (Value.int .u8)) ∧ Below (w.heap.size + 1) wr wx)
      case first =>
        go_region_with (first
          | (go_at_call 112; refine (ref_Bits _ _).mono ?_; rintro e w' ⟨rfl, rfl⟩)
          | (go_at_call 108; refine (ref_lay' (w.heap.size + 1) _ (layI op 6 ++ layI d 5 ++ layI a 5 ++ List.replicate 0 0) _ 16 16 rfl _ (by exact ho') (by exact hzk) (by rw [Hlk.out]; omega) (by omega)).mono ?_; rintro e wy ⟨vy, rfl, hoy, hby⟩))
        all_goals (go_wp2_with fail; go_meet; exact ⟨hoy, by have := hby; exact ⟨this.os, this.tape, this.output, this.size, this.block⟩⟩)
      case rest =>
        obtain ⟨hov, hbv⟩ := hcut
        have h32 : (layI op 6 ++ layI d 5 ++ layI a 5 ++ List.replicate 0 0 ++ layI imm 16).length = 32 := by rw [List.length_append, Hlk.out, layI_length]
        have h01 : ∀ x ∈ layI op 6 ++ layI d 5 ++ layI a 5 ++ List.replicate 0 0 ++ layI imm 16, 0 ≤ x ∧ x ≤ 1 := by
          intro x hx
          simp only [List.mem_append, List.mem_replicate] at hx
          first
            | (rcases hx with ((((hx | hx) | hx) | hx) | hx) | hx <;> first | exact layI_01 _ _ _ hx | omega)
            | (rcases hx with (((hx | hx) | hx) | hx) | hx <;> first | exact layI_01 _ _ _ hx | omega)
            | (rcases hx with ((hx | hx) | hx) | hx <;> first | exact layI_01 _ _ _ hx | omega)
        rw [h32] at hov
        generalize hL : layI op 6 ++ layI d 5 ++ layI a 5 ++ List.replicate 0 0 ++ layI imm 16 = L at *
        have HL := Lib.hid hL
        clear hL
        obtain ⟨A, c, rfl⟩ := ownsRow_form hov
        obtain ⟨g, rfl, _, _, _, hcells, _⟩ := ownsRow_at hov (by omega)
        have hbw : Below w.heap.size w wc := (hbel.trans (hbk.mono (by simp))).trans (hbv.mono (by simp))
        clear hx1 hc1 hc2 hX
        have H32 := Lib.hid h32
        clear h32
        go_wp2_with fail
        go_loop [6, 7] (fun t i => ∃ k : Nat, k ≤ 32 ∧ i = .int .i64 k ∧ t = .int .u32 (val (L.take k))) (fun _ i => 32 - (intOf i).toNat)
        case atStart => exact ⟨0, by omega, by simp, by simp [val]⟩
        case round =>
          obtain ⟨k, hk, rfl, rfl⟩ := hrel
          by_cases hlt : k < 32
          · obtain ⟨x, hx0, hx1, hx2, hx3, hx4, hx5⟩ := horner_step L H32.out h01 k hlt
            have hcx : wc.cell? ⟨g, k, none⟩ = some (.int .u8 x) := by rw [hcells k (by omega)]; exact hx0
            have Hx0 := Lib.hid hx0
            have Hx3 := Lib.hid hx3
            clear hx0 hx3 hcells
            go_wp2_with fail
            go_round
            case rel => exact ⟨k + 1, by omega, by go_num, by rw [Hx3.out]⟩
            case measure => simp [intOf]; omega
          · have hkb : k = 32 := by omega
            subst hkb
            go_wp2_with fail
            go_ret2
            refine ⟨ret_pair ?_ rfl, hbw⟩
            rw [List.take_of_length_le (by rw [H32.out]; omega), HN.out]

set_option maxRecDepth 100000 in
set_option maxHeartbeats 2000000 in
theorem ref_Encode_3 (op d a b imm : Int) (w : World) (N : Int) (hN : N = val (layI op 6 ++ layI d 5 ++ List.replicate 5 0 ++ layI imm 16)) (hc : S.chk ⟨op, d, a, b, imm⟩ = 0) (hD : S.hasD (S.form op) = true) (hA : S.hasA (S.form op) = false) (hB : S.hasB (S.form op) = false) (hI : S.bitsOf (S.form op) = 16) :
    Calls Tryd.prog 86 #[.agg #[.int .i64 op, .int .i64 d, .int .i64 a, .int .i64 b, .int .i64 imm]] w
      fun e w' => e = .returned (.tuple #[.int .u32 N, .int .i64 0]) ∧ Below w.heap.size w w' := by
  have HN := Lib.hid hN
  clear hN
  go_enter Tryd.func86, Tryd.ntmps86
  go_wp2_with (go_at_call 107; refine (ref_Check _ _ _ _ _ _).mono ?_; rintro e w' ⟨rfl, hb⟩; obtain ⟨hc1, hc2⟩ := bcell hb; have hz : w.heap.size + 1 ≤ w'.heap.size := by simpa using hb.size)
  refine (ref_lay' (w.heap.size + 1) _ [] _ 6 6 rfl _ (by simpa using World.ownsRow_nil _ _ _ _) hz (by simp) (by omega)).mono ?_
  rintro e w1 ⟨v1, rfl, ho1, hb1⟩
  rw [List.nil_append] at ho1
  have hx1 : ∀ o, w1.cell? ⟨w.heap.size, o, none⟩ = w'.cell? ⟨w.heap.size, o, none⟩ := fun o => hb1.cell (by simp)
  have hz1 := Nat.le_trans hz hb1.size
  go_wp2_with (first
   | (go_at_call 109; refine (ref_HasD _ _).mono ?_; rintro e w' ⟨rfl, rfl⟩)
   | (go_at_call 110; refine (ref_HasA _ _).mono ?_; rintro e w' ⟨rfl, rfl⟩)
   | (go_at_call 111; refine (ref_HasB _ _).mono ?_; rintro e w' ⟨rfl, rfl⟩))
  refine (ref_lay' (w.heap.size + 1) _ _ _ 5 5 rfl _ ho1 hz1 (by simp [layI_length]) (by omega)).mono ?_
  rintro e w2 ⟨v2, rfl, ho2, hb2⟩
  have hx2 : ∀ o, w2.cell? ⟨w.heap.size, o, none⟩ = w1.cell? ⟨w.heap.size, o, none⟩ := fun o => hb2.cell (by simp)
  have hz2 := Nat.le_trans hz1 hb2.size
  go_wp2_with (first
   | (go_at_call 109; refine (ref_HasD _ _).mono ?_; rintro e w' ⟨rfl, rfl⟩)
   | (go_at_call 110; refine (ref_HasA _ _).mono ?_; rintro e w' ⟨rfl, rfl⟩)
   | (go_at_call 111; refine (ref_HasB _ _).mono ?_; rintro e w' ⟨rfl, rfl⟩))
  have hX : ∀ o, w2.cell? ⟨w.heap.size, o, none⟩ = (#[.int .i64 op, .int .i64 d, .int .i64 a, .int .i64 b, .int .i64 imm] : Array Value)[o]? := by
    intro o
    rw [hx2, hx1, hc1 _ _ (by simp)]
    exact cell_row_new _ _ _ _
  have hbel : Below w.heap.size w w2 := ((((Below.refl _ _).alloc (Nat.le_refl _) _).trans (hb.mono (by simp))).trans (hb1.mono (by simp))).trans (hb2.mono (by simp))
  have hlen : (layI op 6 ++ layI d 5).length = 11 := by simp [layI_length]
  have Hlen := Lib.hid hlen
  clear hlen
  go_loopw [5] (fun v wr => ∃ k : Nat, k ≤ 5 ∧ wr.ownsRow (w.heap.size + 1) 5 1 v (11 + k) ((layI op 6 ++ layI d 5 ++ List.replicate k 0).map (Value.int .u8)) ∧ Below (w.heap.size + 1) w2 wr) (fun v _ => 32 - lenV v)
  case atStart => exact ⟨0, by omega, by rw [Hlen.out] at ho2; simpa using ho2, Below.refl _ _⟩
  case round =>
    obtain ⟨k, hk, ho, hbk⟩ := hrel
    obtain ⟨A, c, rfl⟩ := ownsRow_form ho
    have hXk : ∀ o, wr.cell? ⟨w.heap.size, o, none⟩ = (#[.int .i64 op, .int .i64 d, .int .i64 a, .int .i64 b, .int .i64 imm] : Array Value)[o]? := fun o => (hbk.cell (by simp)).trans (hX o)
    have hzk := Nat.le_trans hz2 hbk.size
    by_cases hlt : k < 5
    · go_wp2_with (first
        | (go_at_call 112; refine (ref_Bits _ _).mono ?_; rintro e w' ⟨rfl, rfl⟩)
        | (at_builtin
           refine wpList_push rfl (.tmp 44) (.tmp 45) _ rfl (w.heap.size + 1) 5 u8_info Tryd.underlying89 rfl (by decide) #[.int .u8 0] _ _ _ rfl ho rfl rfl rfl (by simp [Value.oneCell']) (by simp only [maxLen]; omega) (by omega) hzk ?_
           intro v' w' hown1 hg1 hbp1 hat1))
      go_roundw
      case rel =>
        refine ⟨k + 1, by omega, ?_, hbk.trans hbp1⟩
        rw [List.replicate_succ', ← List.append_assoc, List.map_append]
        exact hown1
      case measure =>
        obtain ⟨A', c', rfl⟩ := ownsRow_form hown1
        simp [lenV]; omega
    · have hkb : k = 5 := by omega
      subst hkb
      go_wp2_with (go_at_call 112; refine (ref_Bits _ _).mono ?_; rintro e w' ⟨rfl, rfl⟩)
      have hzk : w.heap.size + 1 ≤ wr.heap.size := hzk
      have hlk : (layI op 6 ++ layI d 5 ++ List.replicate 5 0).length = 16 := by rw [List.length_append, Hlen.out, List.length_replicate]
      have ho' : wr.ownsRow (w.heap.size + 1) 5 1 (Value.slice A 16 c) (layI op 6 ++ layI d 5 ++ List.replicate 5 0).length ((layI op 6 ++ layI d 5 ++ List.replicate 5 0).map (Value.int .u8)) := by rw [hlk]; exact ho
      have Hlk := Lib.hid hlk
      clear hlk ho
      go_cut [5] (fun v wx => wx.ownsRow (w.heap.size + 1) 5 1 v (layI op 6 ++ layI d 5 ++ List.replicate 5 0 ++ layI imm 16).length ((layI op 6 ++ layI d 5 ++ List.replicate 5 0 ++ layI imm 16).map (Value.int .u8)) ∧ Below (w.heap.size + 1) wr wx)
      case first =>
        go_region_with (first
          | (go_at_call 112; refine (ref_Bits _ _).mono ?_; rintro e w' ⟨rfl, rfl⟩)
          | (go_at_call 108; refine (ref_lay' (w.heap.size + 1) _ (layI op 6 ++ layI d 5 ++ List.replicate 5 0) _ 16 16 rfl _ (by exact ho') (by exact hzk) (by rw [Hlk.out]; omega) (by omega)).mono ?_; rintro e wy ⟨vy, rfl, hoy, hby⟩))
        all_goals (go_wp2_with fail; go_meet; exact ⟨hoy, by have := hby; exact ⟨this.os, this.tape, this.output, this.size, this.block⟩⟩)
      case rest =>
        obtain ⟨hov, hbv⟩ := hcut
        have h32 : (layI op 6 ++ layI d 5 ++ List.replicate 5 0 ++ layI imm 16).length = 32 := by rw [List.length_append, Hlk.out, layI_length]
        have h01 : ∀ x ∈ layI op 6 ++ layI d 5 ++ List.replicate 5 0 ++ layI imm 16, 0 ≤ x ∧ x ≤ 1 := by
          intro x hx
          simp only [List.mem_append, List.mem_replicate] at hx
          first
            | (rcases hx with ((((hx | hx) | hx) | hx) | hx) | hx <;> first | exact layI_01 _ _ _ hx | omega)
            | (rcases hx with (((hx | hx) | hx) | hx) | hx <;> first | exact layI_01 _ _ _ hx | omega)
            | (rcases hx with ((hx | hx) | hx) | hx <;> first | exact layI_01 _ _ _ hx | omega)
        rw [h32] at hov
        generalize hL : layI op 6 ++ layI d 5 ++ List.replicate 5 0 ++ layI imm 16 = L at *
        have HL := Lib.hid hL
        clear hL
        obtain ⟨A, c, rfl⟩ := ownsRow_form hov
        obtain ⟨g, rfl, _, _, _, hcells, _⟩ := ownsRow_at hov (by omega)
        have hbw : Below w.heap.size w wc := (hbel.trans (hbk.mono (by simp))).trans (hbv.mono (by simp))
        clear hx1 hc1 hc2 hX
        have H32 := Lib.hid h32
        clear h32
        go_wp2_with fail
        go_loop [6, 7] (fun t i => ∃ k : Nat, k ≤ 32 ∧ i = .int .i64 k ∧ t = .int .u32 (val (L.take k))) (fun _ i => 32 - (intOf i).toNat)
        case atStart => exact ⟨0, by omega, by simp, by simp [val]⟩
        case round =>
          obtain ⟨k, hk, rfl, rfl⟩ := hrel
          by_cases hlt : k < 32
          · obtain ⟨x, hx0, hx1, hx2, hx3, hx4, hx5⟩ := horner_step L H32.out h01 k hlt
            have hcx : wc.cell? ⟨g, k, none⟩ = some (.int .u8 x) := by rw [hcells k (by omega)]; exact hx0
            have Hx0 := Lib.hid hx0
            have Hx3 := Lib.hid hx3
            clear hx0 hx3 hcells
            go_wp2_with fail
            go_round
            case rel => exact ⟨k + 1, by omega, by go_num, by rw [Hx3.out]⟩
            case measure => simp [intOf]; omega
          · have hkb : k = 32 := by omega
            subst hkb
            go_wp2_with fail
            go_ret2
            refine ⟨ret_pair ?_ rfl, hbw⟩
            rw [List.take_of_length_le (by rw [H32.out]; omega), HN.out]

set_option maxRecDepth 100000 in
set_option maxHeartbeats 2000000 in
theorem ref_Encode_4 (op d a b imm : Int) (w : World) (N : Int) (hN : N = val (layI op 6 ++ layI a 5 ++ layI b 5 ++ List.replicate 0 0 ++ layI imm 16)) (hc : S.chk ⟨op, d, a, b, imm⟩ = 0) (hD : S.hasD (S.form op) = false) (hA : S.hasA (S.form op) = true) (hB : S.hasB (S.form op) = true) (hI : S.bitsOf (S.form op) = 16) :
    Calls Tryd.prog 86 #[.agg #[.int .i64 op, .int .i64 d, .int .i64 a, .int .i64 b, .int .i64 imm]] w
      fun e w' => e = .returned (.tuple #[.int .u32 N, .int .i64 0]) ∧ Below w.heap.size w w' := by
  have HN := Lib.hid hN
  clear hN
  go_enter Tryd.func86, Tryd.ntmps86
  go_wp2_with (go_at_call 107; refine (ref_Check _ _ _ _ _ _).mono ?_; rintro e w' ⟨rfl, hb⟩; obtain ⟨hc1, hc2⟩ := bcell hb; have hz : w.heap.size + 1 ≤ w'.heap.size := by simpa using hb.size)
  refine (ref_lay' (w.heap.size + 1) _ [] _ 6 6 rfl _ (by simpa using World.ownsRow_nil _ _ _ _) hz (by simp) (by omega)).mono ?_
  rintro e w1 ⟨v1, rfl, ho1, hb1⟩
  rw [List.nil_append] at ho1
  have hx1 : ∀ o, w1.cell? ⟨w.heap.size, o, none⟩ = w'.cell? ⟨w.heap.size, o, none⟩ := fun o => hb1.cell (by simp)
  have hz1 := Nat.le_trans hz hb1.size
  go_wp2_with (first
   | (go_at_call 109; refine (ref_HasD _ _).mono ?_; rintro e w' ⟨rfl, rfl⟩)
   | (go_at_call 110; refine (ref_HasA _ _).mono ?_; rintro e w' ⟨rfl, rfl⟩)
   | (go_at_call 111; refine (ref_HasB _ _).mono ?_; rintro e w' ⟨rfl, rfl⟩))
  refine (ref_lay' (w.heap.size + 1) _ _ _ 5 5 rfl _ ho1 hz1 (by simp [layI_length]) (by omega)).mono ?_
  rintro e w2 ⟨v2, rfl, ho2, hb2⟩
  have hx2 : ∀ o, w2.cell? ⟨w.heap.size, o, none⟩ = w1.cell? ⟨w.heap.size, o, none⟩ := fun o => hb2.cell (by simp)
  have hz2 := Nat.le_trans hz1 hb2.size
  go_wp2_with (first
   | (go_at_call 109; refine (ref_HasD _ _).mono ?_; rintro e w' ⟨rfl, rfl⟩)
   | (go_at_call 110; refine (ref_HasA _ _).mono ?_; rintro e w' ⟨rfl, rfl⟩)
   | (go_at_call 111; refine (ref_HasB _ _).mono ?_; rintro e w' ⟨rfl, rfl⟩))
  refine (ref_lay' (w.heap.size + 1) _ _ _ 5 5 rfl _ ho2 hz2 (by simp [layI_length]) (by omega)).mono ?_
  rintro e w3 ⟨v3, rfl, ho3, hb3⟩
  have hx3 : ∀ o, w3.cell? ⟨w.heap.size, o, none⟩ = w2.cell? ⟨w.heap.size, o, none⟩ := fun o => hb3.cell (by simp)
  have hz3 := Nat.le_trans hz2 hb3.size
  go_wp2_with (first
   | (go_at_call 109; refine (ref_HasD _ _).mono ?_; rintro e w' ⟨rfl, rfl⟩)
   | (go_at_call 110; refine (ref_HasA _ _).mono ?_; rintro e w' ⟨rfl, rfl⟩)
   | (go_at_call 111; refine (ref_HasB _ _).mono ?_; rintro e w' ⟨rfl, rfl⟩))
  have hX : ∀ o, w3.cell? ⟨w.heap.size, o, none⟩ = (#[.int .i64 op, .int .i64 d, .int .i64 a, .int .i64 b, .int .i64 imm] : Array Value)[o]? := by
    intro o
    rw [hx3, hx2, hx1, hc1 _ _ (by simp)]
    exact cell_row_new _ _ _ _
  have hbel : Below w.heap.size w w3 := (((((Below.refl _ _).alloc (Nat.le_refl _) _).trans (hb.mono (by simp))).trans (hb1.mono (by simp))).trans (hb2.mono (by simp))).trans (hb3.mono (by simp))
  have hlen : (layI op 6 ++ layI a 5 ++ layI b 5).length = 16 := by simp [layI_length]
  have Hlen := Lib.hid hlen
  clear hlen
  go_loopw [5] (fun v wr => ∃ k : Nat, k ≤ 0 ∧ wr.ownsRow (w.heap.size + 1) 5 1 v (16 + k) ((layI op 6 ++ layI a 5 ++ layI b 5 ++ List.replicate k 0).map (Value.int .u8)) ∧ Below (w.heap.size + 1) w3 wr) (fun v _ => 32 - lenV v)
  case atStart => exact ⟨0, by omega, by rw [Hlen.out] at ho3; simpa using ho3, Below.refl _ _⟩
  case round =>
    obtain ⟨k, hk, ho, hbk⟩ := hrel
    obtain ⟨A, c, rfl⟩ := ownsRow_form ho
    have hXk : ∀ o, wr.cell? ⟨w.heap.size, o, none⟩ = (#[.int .i64 op, .int .i64 d, .int .i64 a, .int .i64 b, .int .i64 imm] : Array Value)[o]? := fun o => (hbk.cell (by simp)).trans (hX o)
    have hzk := Nat.le_trans hz3 hbk.size
    by_cases hlt : k < 0
    · omega
    · have hkb : k = 0 := by omega
      subst hkb
      go_wp2_with (go_at_call 112; refine (ref_Bits _ _).mono ?_; rintro e w' ⟨rfl, rfl⟩)
      have hzk : w.heap.size + 1 ≤ wr.heap.size := hzk
      have hlk : (layI op 6 ++ layI a 5 ++ layI b 5 ++ List.replicate 0 0).length = 16 := by rw [List.length_append, Hlen.out, List.length_replicate]
      have ho' : wr.ownsRow (w.heap.size + 1) 5 1 (Value.slice A 16 c) (layI op 6 ++ layI a 5 ++ layI b 5 ++ List.replicate 0 0).length ((layI op 6 ++ layI a 5 ++ layI b 5 ++ List.replicate 0 0).map (Value.int .u8)) := by rw [hlk]; exact ho
      have Hlk := Lib.hid hlk
      clear hlk ho
      go_cut [5] (fun v wx => wx.ownsRow (w.heap.size + 1) 5 1 v (layI op 6 ++ layI a 5 ++ layI b 5 ++ List.replicate 0 0 ++ layI imm 16).length ((layI op 6 ++ layI a 5 ++ layI b 5 ++ List.replicate 0 0 ++ layI imm 16).map (Value.int .u8)) ∧ Below (w.heap.size + 1) wr wx)
      case first =>
        go_region_with (first
          | (go_at_call 112; refine (ref_Bits _ _).mono ?_; rintro e w' ⟨rfl, rfl⟩)
          | (go_at_call 108; refine (ref_lay' (w.heap.size + 1) _ (layI op 6 ++ layI a 5 ++ layI b 5 ++ List.replicate 0 0) _ 16 16 rfl _ (by exact ho') (by exact hzk) (by rw [Hlk.out]; omega) (by omega)).mono ?_; rintro e wy ⟨vy, rfl, hoy, hby⟩))
        all_goals (go_wp2_with fail; go_meet; exact ⟨hoy, by have := hby; exact ⟨this.os, this.tape, this.output, this.size, this.block⟩⟩)
      case rest =>
        obtain ⟨hov, hbv⟩ := hcut
        have h32 : (layI op 6 ++ layI a 5 ++ layI b 5 ++ List.replicate 0 0 ++ layI imm 16).length = 32 := by rw [List.length_append, Hlk.out, layI_length]
        have h01 : ∀ x ∈ layI op 6 ++ layI a 5 ++ layI b 5 ++ List.replicate 0 0 ++ layI imm 16, 0 ≤ x ∧ x ≤ 1 := by
          intro x hx
          simp only [List.mem_append, List.mem_replicate] at hx
          first
            | (rcases hx with ((((hx | hx) | hx) | hx) | hx) | hx <;> first | exact layI_01 _ _ _ hx | omega)
            | (rcases hx with (((hx | hx) | hx) | hx) | hx <;> first | exact layI_01 _ _ _ hx | omega)
            | (rcases hx with ((hx | hx) | hx) | hx <;> first | exact layI_01 _ _ _ hx | omega)
        rw [h32] at hov
        generalize hL : layI op 6 ++ layI a 5 ++ layI b 5 ++ List.replicate 0 0 ++ layI imm 16 = L at *
        have HL := Lib.hid hL
        clear hL
        obtain ⟨A, c, rfl⟩ := ownsRow_form hov
        obtain ⟨g, rfl, _, _, _, hcells, _⟩ := ownsRow_at hov (by omega)
        have hbw : Below w.heap.size w wc := (hbel.trans (hbk.mono (by simp))).trans (hbv.mono (by simp))
        clear hx1 hc1 hc2 hX
        have H32 := Lib.hid h32
        clear h32
        go_wp2_with fail
        go_loop [6, 7] (fun t i => ∃ k : Nat, k ≤ 32 ∧ i = .int .i64 k ∧ t = .int .u32 (val (L.take k))) (fun _ i => 32 - (intOf i).toNat)
        case atStart => exact ⟨0, by omega, by simp, by simp [val]⟩
        case round =>
          obtain ⟨k, hk, rfl, rfl⟩ := hrel
          by_cases hlt : k < 32
          · obtain ⟨x, hx0, hx1, hx2, hx3, hx4, hx5⟩ := horner_step L H32.out h01 k hlt
            have hcx : wc.cell? ⟨g, k, none⟩ = some (.int .u8 x) := by rw [hcells k (by omega)]; exact hx0
            have Hx0 := Lib.hid hx0
            have Hx3 := Lib.hid hx3
            clear hx0 hx3 hcells
            go_wp2_with fail
            go_round
            case rel => exact ⟨k + 1, by omega, by go_num, by rw [Hx3.out]⟩
            case measure => simp [intOf]; omega
          · have hkb : k = 32 := by omega
            subst hkb
            go_wp2_with fail
            go_ret2
            refine ⟨ret_pair ?_ rfl, hbw⟩
            rw [List.take_of_length_le (by rw [H32.out]; omega), HN.out]

set_option maxRecDepth 100000 in
set_option maxHeartbeats 2000000 in
theorem ref_Encode_5 (op d a b imm : Int) (w : World) (N : Int) (hN : N = val (layI op 6 ++ layI d 5 ++ List.replicate 0 0 ++ layI imm 21)) (hc : S.chk ⟨op, d, a, b, imm⟩ = 0) (hD : S.hasD (S.form op) = true) (hA : S.hasA (S.form op) = false) (hB : S.hasB (S.form op) = false) (hI : S.bitsOf (S.form op) = 21) :
    Calls Tryd.prog 86 #[.agg #[.int .i64 op, .int .i64 d, .int .i64 a, .int .i64 b, .int .i64 imm]] w
      fun e w' => e = .returned (.tuple #[.int .u32 N, .int .i64 0]) ∧ Below w.heap.size w w' := by
  have HN := Lib.hid hN
  clear hN
  go_enter Tryd.func86, Tryd.ntmps86
  go_wp2_with (go_at_call 107; refine (ref_Check _ _ _ _ _ _).mono ?_; rintro e w' ⟨rfl, hb⟩; obtain ⟨hc1, hc2⟩ := bcell hb; have hz : w.heap.size + 1 ≤ w'.heap.size := by simpa using hb.size)
  refine (ref_lay' (w.heap.size + 1) _ [] _ 6 6 rfl _ (by simpa using World.ownsRow_nil _ _ _ _) hz (by simp) (by omega)).mono ?_
  rintro e w1 ⟨v1, rfl, ho1, hb1⟩
  rw [List.nil_append] at ho1
  have hx1 : ∀ o, w1.cell? ⟨w.heap.size, o, none⟩ = w'.cell? ⟨w.heap.size, o, none⟩ := fun o => hb1.cell (by simp)
  have hz1 := Nat.le_trans hz hb1.size
  go_wp2_with (first
   | (go_at_call 109; refine (ref_HasD _ _).mono ?_; rintro e w' ⟨rfl, rfl⟩)
   | (go_at_call 110; refine (ref_HasA _ _).mono ?_; rintro e w' ⟨rfl, rfl⟩)
   | (go_at_call 111; refine (ref_HasB _ _).mono ?_; rintro e w' ⟨rfl, rfl⟩))
  refine (ref_lay' (w.heap.size + 1) _ _ _ 5 5 rfl _ ho1 hz1 (by simp [layI_length]) (by omega)).mono ?_
  rintro e w2 ⟨v2, rfl, ho2, hb2⟩
  have hx2 : ∀ o, w2.cell? ⟨w.heap.size, o, none⟩ = w1.cell? ⟨w.heap.size, o, none⟩ := fun o => hb2.cell (by simp)
  have hz2 := Nat.le_trans hz1 hb2.size
  go_wp2_with (first
   | (go_at_call 109; refine (ref_HasD _ _).mono ?_; rintro e w' ⟨rfl, rfl⟩)
   | (go_at_call 110; refine (ref_HasA _ _).mono ?_; rintro e w' ⟨rfl, rfl⟩)
   | (go_at_call 111; refine (ref_HasB _ _).mono ?_; rintro e w' ⟨rfl, rfl⟩))
  have hX : ∀ o, w2.cell? ⟨w.heap.size, o, none⟩ = (#[.int .i64 op, .int .i64 d, .int .i64 a, .int .i64 b, .int .i64 imm] : Array Value)[o]? := by
    intro o
    rw [hx2, hx1, hc1 _ _ (by simp)]
    exact cell_row_new _ _ _ _
  have hbel : Below w.heap.size w w2 := ((((Below.refl _ _).alloc (Nat.le_refl _) _).trans (hb.mono (by simp))).trans (hb1.mono (by simp))).trans (hb2.mono (by simp))
  have hlen : (layI op 6 ++ layI d 5).length = 11 := by simp [layI_length]
  have Hlen := Lib.hid hlen
  clear hlen
  go_loopw [5] (fun v wr => ∃ k : Nat, k ≤ 0 ∧ wr.ownsRow (w.heap.size + 1) 5 1 v (11 + k) ((layI op 6 ++ layI d 5 ++ List.replicate k 0).map (Value.int .u8)) ∧ Below (w.heap.size + 1) w2 wr) (fun v _ => 32 - lenV v)
  case atStart => exact ⟨0, by omega, by rw [Hlen.out] at ho2; simpa using ho2, Below.refl _ _⟩
  case round =>
    obtain ⟨k, hk, ho, hbk⟩ := hrel
    obtain ⟨A, c, rfl⟩ := ownsRow_form ho
    have hXk : ∀ o, wr.cell? ⟨w.heap.size, o, none⟩ = (#[.int .i64 op, .int .i64 d, .int .i64 a, .int .i64 b, .int .i64 imm] : Array Value)[o]? := fun o => (hbk.cell (by simp)).trans (hX o)
    have hzk := Nat.le_trans hz2 hbk.size
    by_cases hlt : k < 0
    · omega
    · have hkb : k = 0 := by omega
      subst hkb
      go_wp2_with (go_at_call 112; refine (ref_Bits _ _).mono ?_; rintro e w' ⟨rfl, rfl⟩)
      have hzk : w.heap.size + 1 ≤ wr.heap.size := hzk
      have hlk : (layI op 6 ++ layI d 5 ++ List.replicate 0 0).length = 11 := by rw [List.length_append, Hlen.out, List.length_replicate]
      have ho' : wr.ownsRow (w.heap.size + 1) 5 1 (Value.slice A 11 c) (layI op 6 ++ layI d 5 ++ List.replicate 0 0).length ((layI op 6 ++ layI d 5 ++ List.replicate 0 0).map (Value.int .u8)) := by rw [hlk]; exact ho
      have Hlk := Lib.hid hlk
      clear hlk ho
      go_cut [5] (fun v wx => wx.ownsRow (w.heap.size + 1) 5 1 v (layI op 6 ++ layI d 5 ++ List.replicate 0 0 ++ layI imm 21).length ((layI op 6 ++ layI d 5 ++ List.replicate 0 0 ++ layI imm 21).map (Value.int .u8)) ∧ Below (w.heap.size + 1) wr wx)
      case first =>
        go_region_with (first
          | (go_at_call 112; refine (ref_Bits _ _).mono ?_; rintro e w' ⟨rfl, rfl⟩)
          | (go_at_call 108; refine (ref_lay' (w.heap.size + 1) _ (layI op 6 ++ layI d 5 ++ List.replicate 0 0) _ 21 21 rfl _ (by exact ho') (by exact hzk) (by rw [Hlk.out]; omega) (by omega)).mono ?_; rintro e wy ⟨vy, rfl, hoy, hby⟩))
        all_goals (go_wp2_with fail; go_meet; exact ⟨hoy, by have := hby; exact ⟨this.os, this.tape, this.output, this.size, this.block⟩⟩)
      case rest =>
        obtain ⟨hov, hbv⟩ := hcut
        have h32 : (layI op 6 ++ layI d 5 ++ List.replicate 0 0 ++ layI imm 21).length = 32 := by rw [List.length_append, Hlk.out, layI_length]
        have h01 : ∀ x ∈ layI op 6 ++ layI d 5 ++ List.replicate 0 0 ++ layI imm 21, 0 ≤ x ∧ x ≤ 1 := by
          intro x hx
          simp only [List.mem_append, List.mem_replicate] at hx
          first
            | (rcases hx with ((((hx | hx) | hx) | hx) | hx) | hx <;> first | exact layI_01 _ _ _ hx | omega)
            | (rcases hx with (((hx | hx) | hx) | hx) | hx <;> first | exact layI_01 _ _ _ hx | omega)
            | (rcases hx with ((hx | hx) | hx) | hx <;> first | exact layI_01 _ _ _ hx | omega)
        rw [h32] at hov
        generalize hL : layI op 6 ++ layI d 5 ++ List.replicate 0 0 ++ layI imm 21 = L at *
        have HL := Lib.hid hL
        clear hL
        obtain ⟨A, c, rfl⟩ := ownsRow_form hov
        obtain ⟨g, rfl, _, _, _, hcells, _⟩ := ownsRow_at hov (by omega)
        have hbw : Below w.heap.size w wc := (hbel.trans (hbk.mono (by simp))).trans (hbv.mono (by simp))
        clear hx1 hc1 hc2 hX
        have H32 := Lib.hid h32
        clear h32
        go_wp2_with fail
        go_loop [6, 7] (fun t i => ∃ k : Nat, k ≤ 32 ∧ i = .int .i64 k ∧ t = .int .u32 (val (L.take k))) (fun _ i => 32 - (intOf i).toNat)
        case atStart => exact ⟨0, by omega, by simp, by simp [val]⟩
        case round =>
          obtain ⟨k, hk, rfl, rfl⟩ := hrel
          by_cases hlt : k < 32
          · obtain ⟨x, hx0, hx1, hx2, hx3, hx4, hx5⟩ := horner_step L H32.out h01 k hlt
            have hcx : wc.cell? ⟨g, k, none⟩ = some (.int .u8 x) := by rw [hcells k (by omega)]; exact hx0
            have Hx0 := Lib.hid hx0
            have Hx3 := Lib.hid hx3
            clear hx0 hx3 hcells
            go_wp2_with fail
            go_round
            case rel => exact ⟨k + 1, by omega, by go_num, by rw [Hx3.out]⟩
            case measure => simp [intOf]; omega
          · have hkb : k = 32 := by omega
            subst hkb
            go_wp2_with fail
            go_ret2
            refine ⟨ret_pair ?_ rfl, hbw⟩
            rw [List.take_of_length_le (by rw [H32.out]; omega), HN.out]

set_option maxRecDepth 100000 in
set_option maxHeartbeats 2000000 in
theorem ref_Encode_6 (op d a b imm : Int) (w : World) (N : Int) (hN : N = val (layI op 6 ++ layI d 5 ++ List.replicate 21 0 ++ layI imm 0)) (hc : S.chk ⟨op, d, a, b, imm⟩ = 0) (hD : S.hasD (S.form op) = true) (hA : S.hasA (S.form op) = false) (hB : S.hasB (S.form op) = false) (hI : S.bitsOf (S.form op) = 0) :
    Calls Tryd.prog 86 #[.agg #[.int .i64 op, .int .i64 d, .int .i64 a, .int .i64 b, .int .i64 imm]] w
      fun e w' => e = .returned (.tuple #[.int .u32 N, .int .i64 0]) ∧ Below w.heap.size w w' := by
  have HN := Lib.hid hN
  clear hN
  go_enter Tryd.func86, Tryd.ntmps86
  go_wp2_with (go_at_call 107; refine (ref_Check _ _ _ _ _ _).mono ?_; rintro e w' ⟨rfl, hb⟩; obtain ⟨hc1, hc2⟩ := bcell hb; have hz : w.heap.size + 1 ≤ w'.heap.size := by simpa using hb.size)
  refine (ref_lay' (w.heap.size + 1) _ [] _ 6 6 rfl _ (by simpa using World.ownsRow_nil _ _ _ _) hz (by simp) (by omega)).mono ?_
  rintro e w1 ⟨v1, rfl, ho1, hb1⟩
  rw [List.nil_append] at ho1
  have hx1 : ∀ o, w1.cell? ⟨w.heap.size, o, none⟩ = w'.cell? ⟨w.heap.size, o, none⟩ := fun o => hb1.cell (by simp)
  have hz1 := Nat.le_trans hz hb1.size
  go_wp2_with (first
   | (go_at_call 109; refine (ref_HasD _ _).mono ?_; rintro e w' ⟨rfl, rfl⟩)
   | (go_at_call 110; refine (ref_HasA _ _).mono ?_; rintro e w' ⟨rfl, rfl⟩)
   | (go_at_call 111; refine (ref_HasB _ _).mono ?_; rintro e w' ⟨rfl, rfl⟩))
  refine (ref_lay' (w.heap.size + 1) _ _ _ 5 5 rfl _ ho1 hz1 (by simp [layI_length]) (by omega)).mono ?_
  rintro e w2 ⟨v2, rfl, ho2, hb2⟩
  have hx2 : ∀ o, w2.cell? ⟨w.heap.size, o, none⟩ = w1.cell? ⟨w.heap.size, o, none⟩ := fun o => hb2.cell (by simp)
  have hz2 := Nat.le_trans hz1 hb2.size
  go_wp2_with (first
   | (go_at_call 109; refine (ref_HasD _ _).mono ?_; rintro e w' ⟨rfl, rfl⟩)
   | (go_at_call 110; refine (ref_HasA _ _).mono ?_; rintro e w' ⟨rfl, rfl⟩)
   | (go_at_call 111; refine (ref_HasB _ _).mono ?_; rintro e w' ⟨rfl, rfl⟩))
  have hX : ∀ o, w2.cell? ⟨w.heap.size, o, none⟩ = (#[.int .i64 op, .int .i64 d, .int .i64 a, .int .i64 b, .int .i64 imm] : Array Value)[o]? := by
    intro o
    rw [hx2, hx1, hc1 _ _ (by simp)]
    exact cell_row_new _ _ _ _
  have hbel : Below w.heap.size w w2 := ((((Below.refl _ _).alloc (Nat.le_refl _) _).trans (hb.mono (by simp))).trans (hb1.mono (by simp))).trans (hb2.mono (by simp))
  have hlen : (layI op 6 ++ layI d 5).length = 11 := by simp [layI_length]
  have Hlen := Lib.hid hlen
  clear hlen
  go_loopw [5] (fun v wr => ∃ k : Nat, k ≤ 21 ∧ wr.ownsRow (w.heap.size + 1) 5 1 v (11 + k) ((layI op 6 ++ layI d 5 ++ List.replicate k 0).map (Value.int .u8)) ∧ Below (w.heap.size + 1) w2 wr) (fun v _ => 32 - lenV v)
  case atStart => exact ⟨0, by omega, by rw [Hlen.out] at ho2; simpa using ho2, Below.refl _ _⟩
  case round =>
    obtain ⟨k, hk, ho, hbk⟩ := hrel
    obtain ⟨A, c, rfl⟩ := ownsRow_form ho
    have hXk : ∀ o, wr.cell? ⟨w.heap.size, o, none⟩ = (#[.int .i64 op, .int .i64 d, .int .i64 a, .int .i64 b, .int .i64 imm] : Array Value)[o]? := fun o => (hbk.cell (by simp)).trans (hX o)
    have hzk := Nat.le_trans hz2 hbk.size
    by_cases hlt : k < 21
    · go_wp2_with (first
        | (go_at_call 112; refine (ref_Bits _ _).mono ?_; rintro e w' ⟨rfl, rfl⟩)
        | (at_builtin
           refine wpList_push rfl (.tmp 44) (.tmp 45) _ rfl (w.heap.size + 1) 5 u8_info Tryd.underlying89 rfl (by decide) #[.int .u8 0] _ _ _ rfl ho rfl rfl rfl (by simp [Value.oneCell']) (by simp only [maxLen]; omega) (by omega) hzk ?_
           intro v' w' hown1 hg1 hbp1 hat1))
      go_roundw
      case rel =>
        refine ⟨k + 1, by omega, ?_, hbk.trans hbp1⟩
        rw [List.replicate_succ', ← List.append_assoc, List.map_append]
        exact hown1
      case measure =>
        obtain ⟨A', c', rfl⟩ := ownsRow_form hown1
        simp [lenV]; omega
    · have hkb : k = 21 := by omega
      subst hkb
      go_wp2_with (go_at_call 112; refine (ref_Bits _ _).mono ?_; rintro e w' ⟨rfl, rfl⟩)
      have hzk : w.heap.size + 1 ≤ wr.heap.size := hzk
      have hlk : (layI op 6 ++ layI d 5 ++ List.replicate 21 0).length = 32 := by rw [List.length_append, Hlen.out, List.length_replicate]
      have ho' : wr.ownsRow (w.heap.size + 1) 5 1 (Value.slice A 32 c) (layI op 6 ++ layI d 5 ++ List.replicate 21 0).length ((layI op 6 ++ layI d 5 ++ List.replicate 21 0).map (Value.int .u8)) := by rw [hlk]; exact ho
      have Hlk := Lib.hid hlk
      clear hlk ho
      go_cut [5] (fun v wx => wx.ownsRow (w.heap.size + 1) 5 1 v (layI op 6 ++ layI d 5 ++ List.replicate 21 0 ++ layI imm 0).length ((layI op 6 ++ layI d 5 ++ List.replicate 21 0 ++ layI imm 0).map (Value.int .u8)) ∧ Below (w.heap.size + 1) wr wx)
      case first =>
        go_region_with (first
          | (go_at_call 112; refine (ref_Bits _ _).mono ?_; rintro e w' ⟨rfl, rfl⟩)
          | (go_at_call 108; refine (ref_lay' (w.heap.size + 1) _ (layI op 6 ++ layI d 5 ++ List.replicate 21 0) _ 0 0 rfl _ (by exact ho') (by exact hzk) (by rw [Hlk.out]; omega) (by omega)).mono ?_; rintro e wy ⟨vy, rfl, hoy, hby⟩))
        all_goals (go_wp2_with fail; go_meet; exact ⟨hoy, by have := hby; exact ⟨this.os, this.tape, this.output, this.size, this.block⟩⟩)
      case rest =>
        obtain ⟨hov, hbv⟩ := hcut
        have h32 : (layI op 6 ++ layI d 5 ++ List.replicate 21 0 ++ layI imm 0).length = 32 := by rw [List.length_append, Hlk.out, layI_length]
        have h01 : ∀ x ∈ layI op 6 ++ layI d 5 ++ List.replicate 21 0 ++ layI imm 0, 0 ≤ x ∧ x ≤ 1 := by
          intro x hx
          simp only [List.mem_append, List.mem_replicate] at hx
          first
            | (rcases hx with ((((hx | hx) | hx) | hx) | hx) | hx <;> first | exact layI_01 _ _ _ hx | omega)
            | (rcases hx with (((hx | hx) | hx) | hx) | hx <;> first | exact layI_01 _ _ _ hx | omega)
            | (rcases hx with ((hx | hx) | hx) | hx <;> first | exact layI_01 _ _ _ hx | omega)
        rw [h32] at hov
        generalize hL : layI op 6 ++ layI d 5 ++ List.replicate 21 0 ++ layI imm 0 = L at *
        have HL := Lib.hid hL
        clear hL
        obtain ⟨A, c, rfl⟩ := ownsRow_form hov
        obtain ⟨g, rfl, _, _, _, hcells, _⟩ := ownsRow_at hov (by omega)
        have hbw : Below w.heap.size w wc := (hbel.trans (hbk.mono (by simp))).trans (hbv.mono (by simp))
        clear hx1 hc1 hc2 hX
        have H32 := Lib.hid h32
        clear h32
        go_wp2_with fail
        go_loop [6, 7] (fun t i => ∃ k : Nat, k ≤ 32 ∧ i = .int .i64 k ∧ t = .int .u32 (val (L.take k))) (fun _ i => 32 - (intOf i).toNat)
        case atStart => exact ⟨0, by omega, by simp, by simp [val]⟩
        case round =>
          obtain ⟨k, hk, rfl, rfl⟩ := hrel
          by_cases hlt : k < 32
          · obtain ⟨x, hx0, hx1, hx2, hx3, hx4, hx5⟩ := horner_step L H32.out h01 k hlt
            have hcx : wc.cell? ⟨g, k, none⟩ = some (.int .u8 x) := by rw [hcells k (by omega)]; exact hx0
            have Hx0 := Lib.hid hx0
            have Hx3 := Lib.hid hx3
            clear hx0 hx3 hcells
            go_wp2_with fail
            go_round
            case rel => exact ⟨k + 1, by omega, by go_num, by rw [Hx3.out]⟩
            case measure => simp [intOf]; omega
          · have hkb : k = 32 := by omega
            subst hkb
            go_wp2_with fail
            go_ret2
            refine ⟨ret_pair ?_ rfl, hbw⟩
            rw [List.take_of_length_le (by rw [H32.out]; omega), HN.out]

set_option maxRecDepth 100000 in
set_option maxHeartbeats 2000000 in
theorem ref_Encode_7 (op d a b imm : Int) (w : World) (N : Int) (hN : N = val (layI op 6 ++ layI a 5 ++ List.replicate 21 0 ++ layI imm 0)) (hc : S.chk ⟨op, d, a, b, imm⟩ = 0) (hD : S.hasD (S.form op) = false) (hA : S.hasA (S.form op) = true) (hB : S.hasB (S.form op) = false) (hI : S.bitsOf (S.form op) = 0) :
    Calls Tryd.prog 86 #[.agg #[.int .i64 op, .int .i64 d, .int .i64 a, .int .i64 b, .int .i64 imm]] w
      fun e w' => e = .returned (.tuple #[.int .u32 N, .int .i64 0]) ∧ Below w.heap.size w w' := by
  have HN := Lib.hid hN
  clear hN
  go_enter Tryd.func86, Tryd.ntmps86
  go_wp2_with (go_at_call 107; refine (ref_Check _ _ _ _ _ _).mono ?_; rintro e w' ⟨rfl, hb⟩; obtain ⟨hc1, hc2⟩ := bcell hb; have hz : w.heap.size + 1 ≤ w'.heap.size := by simpa using hb.size)
  refine (ref_lay' (w.heap.size + 1) _ [] _ 6 6 rfl _ (by simpa using World.ownsRow_nil _ _ _ _) hz (by simp) (by omega)).mono ?_
  rintro e w1 ⟨v1, rfl, ho1, hb1⟩
  rw [List.nil_append] at ho1
  have hx1 : ∀ o, w1.cell? ⟨w.heap.size, o, none⟩ = w'.cell? ⟨w.heap.size, o, none⟩ := fun o => hb1.cell (by simp)
  have hz1 := Nat.le_trans hz hb1.size
  go_wp2_with (first
   | (go_at_call 109; refine (ref_HasD _ _).mono ?_; rintro e w' ⟨rfl, rfl⟩)
   | (go_at_call 110; refine (ref_HasA _ _).mono ?_; rintro e w' ⟨rfl, rfl⟩)
   | (go_at_call 111; refine (ref_HasB _ _).mono ?_; rintro e w' ⟨rfl, rfl⟩))
  refine (ref_lay' (w.heap.size + 1) _ _ _ 5 5 rfl _ ho1 hz1 (by simp [layI_length]) (by omega)).mono ?_
  rintro e w2 ⟨v2, rfl, ho2, hb2⟩
  have hx2 : ∀ o, w2.cell? ⟨w.heap.size, o, none⟩ = w1.cell? ⟨w.heap.size, o, none⟩ := fun o => hb2.cell (by simp)
  have hz2 := Nat.le_trans hz1 hb2.size
  go_wp2_with (first
   | (go_at_call 109; refine (ref_HasD _ _).mono ?_; rintro e w' ⟨rfl, rfl⟩)
   | (go_at_call 110; refine (ref_HasA _ _).mono ?_; rintro e w' ⟨rfl, rfl⟩)
   | (go_at_call 111; refine (ref_HasB _ _).mono ?_; rintro e w' ⟨rfl, rfl⟩))
  have hX : ∀ o, w2.cell? ⟨w.heap.size, o, none⟩ = (#[.int .i64 op, .int .i64 d, .int .i64 a, .int .i64 b, .int .i64 imm] : Array Value)[o]? := by
    intro o
    rw [hx2, hx1, hc1 _ _ (by simp)]
    exact cell_row_new _ _ _ _
  have hbel : Below w.heap.size w w2 := ((((Below.refl _ _).alloc (Nat.le_refl _) _).trans (hb.mono (by simp))).trans (hb1.mono (by simp))).trans (hb2.mono (by simp))
  have hlen : (layI op 6 ++ layI a 5).length = 11 := by simp [layI_length]
  have Hlen := Lib.hid hlen
  clear hlen
  go_loopw [5] (fun v wr => ∃ k : Nat, k ≤ 21 ∧ wr.ownsRow (w.heap.size + 1) 5 1 v (11 + k) ((layI op 6 ++ layI a 5 ++ List.replicate k 0).map (Value.int .u8)) ∧ Below (w.heap.size + 1) w2 wr) (fun v _ => 32 - lenV v)
  case atStart => exact ⟨0, by omega, by rw [Hlen.out] at ho2; simpa using ho2, Below.refl _ _⟩
  case round =>
    obtain ⟨k, hk, ho, hbk⟩ := hrel
    obtain ⟨A, c, rfl⟩ := ownsRow_form ho
    have hXk : ∀ o, wr.cell? ⟨w.heap.size, o, none⟩ = (#[.int .i64 op, .int .i64 d, .int .i64 a, .int .i64 b, .int .i64 imm] : Array Value)[o]? := fun o => (hbk.cell (by simp)).trans (hX o)
    have hzk := Nat.le_trans hz2 hbk.size
    by_cases hlt : k < 21
    · go_wp2_with (first
        | (go_at_call 112; refine (ref_Bits _ _).mono ?_; rintro e w' ⟨rfl, rfl⟩)
        | (at_builtin
           refine wpList_push rfl (.tmp 44) (.tmp 45) _ rfl (w.heap.size + 1) 5 u8_info Tryd.underlying89 rfl (by decide) #[.int .u8 0] _ _ _ rfl ho rfl rfl rfl (by simp [Value.oneCell']) (by simp only [maxLen]; omega) (by omega) hzk ?_
           intro v' w' hown1 hg1 hbp1 hat1))
      go_roundw
      case rel =>
        refine ⟨k + 1, by omega, ?_, hbk.trans hbp1⟩
        rw [List.replicate_succ', ← List.append_assoc, List.map_append]
        exact hown1
      case measure =>
        obtain ⟨A', c', rfl⟩ := ownsRow_form hown1
        simp [lenV]; omega
    · have hkb : k = 21 := by omega
      subst hkb
      go_wp2_with (go_at_call 112; refine (ref_Bits _ _).mono ?_; rintro e w' ⟨rfl, rfl⟩)
      have hzk : w.heap.size + 1 ≤ wr.heap.size := hzk
      have hlk : (layI op 6 ++ layI a 5 ++ List.replicate 21 0).length = 32 := by rw [List.length_append, Hlen.out, List.length_replicate]
      have ho' : wr.ownsRow (w.heap.size + 1) 5 1 (Value.slice A 32 c) (layI op 6 ++ layI a 5 ++ List.replicate 21 0).length ((layI op 6 ++ layI a 5 ++ List.replicate 21 0).map (Value.int .u8)) := by rw [hlk]; exact ho
      have Hlk := Lib.hid hlk
      clear hlk ho
      go_cut [5] (fun v wx => wx.ownsRow (w.heap.size + 1) 5 1 v (layI op 6 ++ layI a 5 ++ List.replicate 21 0 ++ layI imm 0).length ((layI op 6 ++ layI a 5 ++ List.replicate 21 0 ++ layI imm 0).map (Value.int .u8)) ∧ Below (w.heap.size + 1) wr wx)
      case first =>
        go_region_with (first
          | (go_at_call 112; refine (ref_Bits _ _).mono ?_; rintro e w' ⟨rfl, rfl⟩)
          | (go_at_call 108; refine (ref_lay' (w.heap.size + 1) _ (layI op 6 ++ layI a 5 ++ List.replicate 21 0) _ 0 0 rfl _ (by exact ho') (by exact hzk) (by rw [Hlk.out]; omega) (by omega)).mono ?_; rintro e wy ⟨vy, rfl, hoy, hby⟩))
        all_goals (go_wp2_with fail; go_meet; exact ⟨hoy, by have := hby; exact ⟨this.os, this.tape, this.output, this.size, this.block⟩⟩)
      case rest =>
        obtain ⟨hov, hbv⟩ := hcut
        have h32 : (layI op 6 ++ layI a 5 ++ List.replicate 21 0 ++ layI imm 0).length = 32 := by rw [List.length_append, Hlk.out, layI_length]
        have h01 : ∀ x ∈ layI op 6 ++ layI a 5 ++ List.replicate 21 0 ++ layI imm 0, 0 ≤ x ∧ x ≤ 1 := by
          intro x hx
          simp only [List.mem_append, List.mem_replicate] at hx
          first
            | (rcases hx with ((((hx | hx) | hx) | hx) | hx) | hx <;> first | exact layI_01 _ _ _ hx | omega)
            | (rcases hx with (((hx | hx) | hx) | hx) | hx <;> first | exact layI_01 _ _ _ hx | omega)
            | (rcases hx with ((hx | hx) | hx) | hx <;> first | exact layI_01 _ _ _ hx | omega)
        rw [h32] at hov
        generalize hL : layI op 6 ++ layI a 5 ++ List.replicate 21 0 ++ layI imm 0 = L at *
        have HL := Lib.hid hL
        clear hL
        obtain ⟨A, c, rfl⟩ := ownsRow_form hov
        obtain ⟨g, rfl, _, _, _, hcells, _⟩ := ownsRow_at hov (by omega)
        have hbw : Below w.heap.size w wc := (hbel.trans (hbk.mono (by simp))).trans (hbv.mono (by simp))
        clear hx1 hc1 hc2 hX
        have H32 := Lib.hid h32
        clear h32
        go_wp2_with fail
        go_loop [6, 7] (fun t i => ∃ k : Nat, k ≤ 32 ∧ i = .int .i64 k ∧ t = .int .u32 (val (L.take k))) (fun _ i => 32 - (intOf i).toNat)
        case atStart => exact ⟨0, by omega, by simp, by simp [val]⟩
        case round =>
          obtain ⟨k, hk, rfl, rfl⟩ := hrel
          by_cases hlt : k < 32
          · obtain ⟨x, hx0, hx1, hx2, hx3, hx4, hx5⟩ := horner_step L H32.out h01 k hlt
            have hcx : wc.cell? ⟨g, k, none⟩ = some (.int .u8 x) := by rw [hcells k (by omega)]; exact hx0
            have Hx0 := Lib.hid hx0
            have Hx3 := Lib.hid hx3
            clear hx0 hx3 hcells
            go_wp2_with fail
            go_round
            case rel => exact ⟨k + 1, by omega, by go_num, by rw [Hx3.out]⟩
            case measure => simp [intOf]; omega
          · have hkb : k = 32 := by omega
            subst hkb
            go_wp2_with fail
            go_ret2
            refine ⟨ret_pair ?_ rfl, hbw⟩
            rw [List.take_of_length_le (by rw [H32.out]; omega), HN.out]

theorem ref_Encode (op d a b imm : Int) (w : World) (hg : S.good ⟨op, d, a, b, imm⟩ = true) :
    Calls Tryd.prog 86 #[.agg #[.int .i64 op, .int .i64 d, .int .i64 a, .int .i64 b, .int .i64 imm]] w
      fun e w' => e = .returned (.tuple #[.int .u32 (S.enc ⟨op, d, a, b, imm⟩), .int .i64 0]) ∧ Below w.heap.size w w' := by
  have hc : S.chk ⟨op, d, a, b, imm⟩ = 0 := by simp [S.chk, hg]
  obtain ⟨o1, o2, d1, d2, a1, a2, b1, b2, hw⟩ := good_ways hg
  clear hg
  rcases hw with ⟨h, hD, hA, hB, hI, i1, i2⟩ | ⟨h, hD, hA, hB, hI, i1, i2⟩ | ⟨h, hD, hA, hB, hI, i1, i2⟩ | ⟨h, hD, hA, hB, hI, i1, i2⟩ | ⟨h, hD, hA, hB, hI, i1, i2⟩ | ⟨h, hD, hA, hB, hI, i1, i2⟩ | ⟨h, hD, hA, hB, hI, i1, i2⟩
  · refine ref_Encode_1 op d a b imm w _ ?_ hc hD hA hB hI
    simp only [val_append, layI_val, layI_length, val_zeros, List.length_append, List.length_replicate, S.enc, h]
    simp
    omega
  · refine ref_Encode_2 op d a b imm w _ ?_ hc hD hA hB hI
    simp only [val_append, layI_val, layI_length, val_zeros, List.length_append, List.length_replicate, S.enc, h]
    simp
    omega
  · refine ref_Encode_3 op d a b imm w _ ?_ hc hD hA hB hI
    simp only [val_append, layI_val, layI_length, val_zeros, List.length_append, List.length_replicate, S.enc, h]
    simp
    omega
  · refine ref_Encode_4 op d a b imm w _ ?_ hc hD hA hB hI
    simp only [val_append, layI_val, layI_length, val_zeros, List.length_append, List.length_replicate, S.enc, h]
    simp
    omega
  · refine ref_Encode_5 op d a b imm w _ ?_ hc hD hA hB hI
    simp only [val_append, layI_val, layI_length, val_zeros, List.length_append, List.length_replicate, S.enc, h]
    simp
    omega
  · refine ref_Encode_6 op d a b imm w _ ?_ hc hD hA hB hI
    simp only [val_append, layI_val, layI_length, val_zeros, List.length_append, List.length_replicate, S.enc, h]
    simp
    omega
  · refine ref_Encode_7 op d a b imm w _ ?_ hc hD hA hB hI
    simp only [val_append, layI_val, layI_length, val_zeros, List.length_append, List.length_replicate, S.enc, h]
    simp
    omega

end Go.Proofs.YtkdalaiponchbaaDoor
