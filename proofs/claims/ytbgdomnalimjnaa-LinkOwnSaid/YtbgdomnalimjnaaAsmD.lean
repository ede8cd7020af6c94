/- Walks of pennantref03: At, fits. -/
import Derived.Test.YtbgdomnalimjnaaAsmC
set_option linter.unusedVariables false
set_option linter.unusedSimpArgs false
set_option linter.unusedSectionVars false
namespace Go.Proofs.Ytbgdomnalimjnaa
open Go.RowKit

set_option maxRecDepth 100000 in
set_option maxHeartbeats 2000000 in
theorem ref_At (A Af : Option Addr) (c cf : Nat) (xs : List S.Item) (F : List Int) (base : Int) (w : World) (hi : Items w w.heap.size A xs) (hF : Ints w w.heap.size Af F) (hok : S.FormOk xs F)
    (hl : xs.length ≤ 1048576) (hb0 : 0 ≤ base) (hb1 : base ≤ 67108864) (hw : ∀ x ∈ xs, 0 ≤ x.word ∧ x.word ≤ 4294967295) :
    Calls Try.prog 91 #[.slice A xs.length c, .slice Af F.length cf, .int .i64 base] w
      fun e w' => ∃ v, e = .returned v ∧ w'.ownsRow w.heap.size 3 1 v (xs.length + 1) ((addrs xs F base (xs.length + 1)).map (Value.int .i64)) ∧ Below w.heap.size w w' := by
  go_enter Try.func91, Try.ntmps91
  have hFl := hok.1
  have HF := Lib.hid hFl
  clear hFl
  go_wp2_with fail
  go_loopw [7, 8] (fun v i wr => ∃ k : Nat, k ≤ xs.length ∧ i = .int .i64 k ∧ wr.ownsRow w.heap.size 3 1 v (k + 1) ((addrs xs F base (k + 1)).map (Value.int .i64)) ∧ Below w.heap.size w wr) (fun _ i _ => xs.length - (intOf i).toNat)
  case atStart =>
    refine ⟨0, by omega, rfl, ?_, (Below.refl _ _).alloc (Nat.le_refl _) _⟩
    exact World.ownsRow_lit (base := w.heap.size) w #[.int .i64 base] 1 (Nat.le_refl _) (by simp [maxLen]) rfl
  case round =>
    obtain ⟨k, hk, rfl, ho, hbk⟩ := hrel
    by_cases hlt : k < xs.length
    · obtain ⟨b, off, x, rfl, hb, hx, hc0, hc1, hc2, hc3, hc4, hc5, hc6, hc7, hw0, hw1⟩ := (hi.below hbk).at_ hlt
      obtain ⟨bF, oF, rfl, hbF, hcF⟩ := (hF.below hbk).at_ (k := k) (by rw [HF.out]; exact hlt)
      obtain ⟨hbd0, hbd1⟩ := addr_bd (base := base) hok hw k
      obtain ⟨hsd0, hsd1⟩ := sizeAt_bd hok hw k
      obtain ⟨h3, h4, h5⟩ := hok.2 k x hx
      have hf0 : 0 ≤ F.getD k 0 ∧ F.getD k 0 ≤ 3 := by
        by_cases c3 : x.kind = 3
        · have := h3 c3; omega
        · by_cases c4 : x.kind = 4
          · have := h4 c4; omega
          · have := h5 c3 c4; omega
      obtain ⟨hf0, hf1⟩ := hf0
      have hsz : S.size x (F.getD k 0) = S.sizeAt xs F k := by simp [S.sizeAt, hx]
      clear hx h3 h4 h5
      obtain ⟨kind, ⟨op, d, a, b', imm⟩, lab, wd⟩ := x
      simp only at hc0 hc1 hc2 hc3 hc4 hc5 hc6 hc7 hw0 hw1
      obtain ⟨Ao, co, rfl⟩ := ownsRow_form ho
      obtain ⟨g, rfl, hg1, hg2, hg3, hg4, hg5⟩ := ownsRow_at ho (by omega)
      have hcg : wr.cell? ⟨g, k, none⟩ = some (.int .i64 (S.addr xs F base k)) := by
        rw [hg4 k (by omega), List.getElem?_map]
        simp [addrs]
      have hzr := hbk.size
      have hE := ext_cells wr
      have hbr : b < wr.heap.size := by omega
      have hbFr : bF < wr.heap.size := by omega
      clear hg4 hg5
      have hFk : F.length ≤ 1048576 ∧ k < F.length := by rw [HF.out]; omega
      obtain ⟨hFk1, hFk2⟩ := hFk
      generalize F.getD k 0 = fk at *
      generalize hak : S.addr xs F base k = ak at *
      have Hak := Lib.hid hak
      clear hak
      go_wp2_with fail
      refine wp_region_ext_plan 15 1 [0, 1, 2, 3, 4, 5, 6, 7, 8, 9, 10, 11, 12, 13, 14] (by kernel_rfl) (by kernel_rfl) (fun _ _ _ _ _ h => h) ?_
      repeat (first
        | (refine plan_cons rfl ?_; go_big_quiet_step ((go_at_call 117; exact ext_of (ref_Size _ _ _ _ _ _ _ _ _ _ hf0 hf1 hw0 hw1)))))
      refine wpQuiet_nil ?_
      rintro _ ⟨⟨w1, hb1⟩, rfl⟩
      simp only [List.drop_succ_cons, List.drop_zero]
      have ho1 := ownsRow_below ho hb1
      have hz1 := hb1.size
      clear hE
      go_wp2_with (at_builtin
                   refine wpList_push rfl (.tmp 17) (.tmp 32) _ rfl w.heap.size 3 int_info Try.underlying82 rfl (by decide) #[.int .i64 (ak + S.sizeAt xs F k)] _ _ _ rfl ho1 rfl rfl rfl (by simp [Value.oneCell']) (by simp only [maxLen]; omega) (by omega) (by omega) ?_
                   intro v' w' hown1 hg1 hb2 hat1)
      go_roundw
      case rel =>
        refine ⟨k + 1, by omega, by go_num, ?_, (hbk.trans (hb1.mono hzr)).trans hb2⟩
        rw [addrs_succ xs F base (k + 1), List.map_append]
        have e : S.addr xs F base (k + 1) = ak + S.sizeAt xs F k := by rw [S.addr, Hak.out]
        rw [e]
        exact hown1
      case measure => simp [intOf]; omega
    · have hkl : k = xs.length := by omega
      subst hkl
      go_wp2_with fail
      go_ret
      exact ⟨_, rfl, ho, hbk⟩

end Go.Proofs.Ytbgdomnalimjnaa
