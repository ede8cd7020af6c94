/- Walk of build's Build. -/
import Derived.Test.YtlldagdhlfpihaaGreatDoorZBStm2
import Derived.StillTailTactics
import Derived.Laws.ResultCell
import Derived.OneCell
set_option linter.unusedVariables false
set_option linter.unusedSimpArgs false
set_option linter.unusedSectionVars false
namespace Go.Proofs.YtlldagdhlfpihaaGreatDoor
open Go.RowKit

theorem bParams_len : ∀ k, (S.bParams k).length = k
  | 0 => rfl
  | k + 1 => by rw [S.bParams, List.length_append, bParams_len k]; rfl

/-- What Build leaves: an object of a routine's items. -/
def BPost (r : S.BR) (w : World) (e : Ending) (w' : World) : Prop :=
  ∃ A c, e = .returned (.tuple #[.agg #[.string r.name, .slice A (S.bItems r).length c], .int .i64 0]) ∧ w'.ownsRow w.heap.size 152 8 (.slice A (S.bItems r).length c) (S.bItems r).length ((S.bItems r).flatMap itemCells) ∧ Below w.heap.size w w'

theorem BPost.mk' {r : S.BR} {w w' : World} {A : Option Addr} {c : Nat} {T : List S.Item} (hT : T = S.bItems r) (h : w'.ownsRow w.heap.size 152 8 (.slice A T.length c) T.length (T.flatMap itemCells)) (hb : Below w.heap.size w w') : BPost r w (.returned (.tuple #[.agg #[.string r.name, .slice A T.length c], .int .i64 0])) w' := by
  subst hT
  exact ⟨A, c, rfl, h, hb⟩
set_option maxRecDepth 100000 in
set_option maxHeartbeats 1000000 in
theorem b_Build (r : S.BR) (A : Option Addr) (c : Nat) (w : World) (hR : RAt2 w w.heap.size r A) (h0 : S.chkB r = 0) (hsz : szSs r.body ≤ 1000000) (hL : LVE w) (hl : (S.bItems r).length + 20 ≤ 100000000) :
    Calls Tryz.prog 42 #[rVal r A c] w (BPost r w) := by
  have Hck := Lib.hid (fun (W : World) (hb : Below w.heap.size w W) => b_Check r A c W ((hR.below hb).more hb.size))
  have Hfr := Lib.hid (fun (W : World) (hb : Below w.heap.size w W) => b_Frame r A c W ((hR.below hb).more hb.size))
  rw [h0] at Hck
  obtain ⟨nm, P, L, bh, body⟩ := r
  unfold rVal at Hck Hfr ⊢
  simp only at Hck Hfr hsz ⊢
  obtain ⟨N, hN⟩ : ∃ N, N = body.length := ⟨_, rfl⟩
  rw [← hN] at Hck Hfr ⊢
  have HN := Lib.hid hN
  obtain ⟨t1, t2, t3, t4⟩ := two_blocks w (.cells #[.string nm, .int .i64 P, .int .i64 L, .bool bh, .slice A N c] 34) (.cells #[.string ⟨#[]⟩, .slice none 0 0] 98)
  have HbX := Lib.hid t3
  have HRX := Lib.hid t1
  have HOX := Lib.hid t2
  have hzX : w.heap.size + 2 ≤ ((w.alloc (.cells #[.string nm, .int .i64 P, .int .i64 L, .bool bh, .slice A N c] 34)).alloc (.cells #[.string ⟨#[]⟩, .slice none 0 0] 98)).heap.size := Nat.le_of_eq t4.symm
  clear hN t1 t2 t3 t4
  go_enter Tryz.func42, Tryz.ntmps42
  go_upto_region 1 with fail
  generalize (w.alloc (.cells #[.string nm, .int .i64 P, .int .i64 L, .bool bh, .slice A N c] 34)).alloc (.cells #[.string ⟨#[]⟩, .slice none 0 0] 98) = w2 at *
  have k0 : w2.cell? ⟨w.heap.size, 0, none⟩ = some (.string nm) := by rw [Lib.cell_of_heap HRX.out]; rfl
  have k1 : w2.cell? ⟨w.heap.size, 1, none⟩ = some (.int .i64 P) := by rw [Lib.cell_of_heap HRX.out]; rfl
  have k2 : w2.cell? ⟨w.heap.size, 2, none⟩ = some (.int .i64 L) := by rw [Lib.cell_of_heap HRX.out]; rfl
  have k3 : w2.cell? ⟨w.heap.size, 3, none⟩ = some (.bool bh) := by rw [Lib.cell_of_heap HRX.out]; rfl
  have k4 : w2.cell? ⟨w.heap.size, 4, none⟩ = some (.slice A N c) := by rw [Lib.cell_of_heap HRX.out]; rfl
  go_wp2_with fail
  refine (Hck.out w2 HbX.out).mono ?_
  rintro e w3 ⟨rfl, hb3⟩
  have Hr3 := Lib.hid ((hb3.block _ (by omega)).trans HRX.out)
  have Ho3 := Lib.hid ((hb3.block _ (by omega)).trans HOX.out)
  have hz3 : w.heap.size + 2 ≤ w3.heap.size := Nat.le_trans hzX hb3.size
  have HZ3 := Lib.hid (HbX.out.trans (hb3.mono HbX.out.size))
  clear k0 k1 k2 k3 k4 hb3 HRX HbX HOX hzX
  have k0 : w3.cell? ⟨w.heap.size, 0, none⟩ = some (.string nm) := by rw [Lib.cell_of_heap Hr3.out]; rfl
  have k1 : w3.cell? ⟨w.heap.size, 1, none⟩ = some (.int .i64 P) := by rw [Lib.cell_of_heap Hr3.out]; rfl
  have k2 : w3.cell? ⟨w.heap.size, 2, none⟩ = some (.int .i64 L) := by rw [Lib.cell_of_heap Hr3.out]; rfl
  have k3 : w3.cell? ⟨w.heap.size, 3, none⟩ = some (.bool bh) := by rw [Lib.cell_of_heap Hr3.out]; rfl
  have k4 : w3.cell? ⟨w.heap.size, 4, none⟩ = some (.slice A N c) := by rw [Lib.cell_of_heap Hr3.out]; rfl
  go_upto_region 4 with fail
  obtain ⟨fr, hfrd⟩ : ∃ fr, fr = S.frameB ⟨nm, P, L, bh, body⟩ := ⟨_, rfl⟩
  rw [← hfrd] at Hfr
  have Hfrd := Lib.hid hfrd
  clear hfrd
  go_cut [5] (fun v5 wc => ∃ p : Nat, v5 = .pointer (some ⟨p, 0, none⟩) ∧ Hid (CAt w3.heap.size p ⟨⟨nm, P, L, bh, body⟩, A, c, fr⟩ [] 0 wc) ∧ Hid (Below w3.heap.size w3 wc))
  case first =>
    refine wp_region_any (by kernel_rfl) ?_
    change wpAny _ _ _ _ _ _ _ (World.drew w3)
    have hdb : Below w3.heap.size w3 w3.drew := ⟨rfl, rfl, rfl, Nat.le_refl _, fun _ _ => rfl⟩
    generalize w3.drew = w4 at *
    have Hr4 := Lib.hid ((hdb.block _ (by omega)).trans Hr3.out)
    have hz4 := hdb.size
    clear k0 k1 k2 k3 k4
    have k0 : w4.cell? ⟨w.heap.size, 0, none⟩ = some (.string nm) := by rw [Lib.cell_of_heap Hr4.out]; rfl
    have k1 : w4.cell? ⟨w.heap.size, 1, none⟩ = some (.int .i64 P) := by rw [Lib.cell_of_heap Hr4.out]; rfl
    have k2 : w4.cell? ⟨w.heap.size, 2, none⟩ = some (.int .i64 L) := by rw [Lib.cell_of_heap Hr4.out]; rfl
    have k3 : w4.cell? ⟨w.heap.size, 3, none⟩ = some (.bool bh) := by rw [Lib.cell_of_heap Hr4.out]; rfl
    have k4 : w4.cell? ⟨w.heap.size, 4, none⟩ = some (.slice A N c) := by rw [Lib.cell_of_heap Hr4.out]; rfl
    have HF4 := Lib.hid (Hfr.out w4 (HZ3.out.trans (hdb.mono HZ3.out.size)))
    refine wpAny_ready (rs := [0, 1]) (by kernel_rfl) (by simp) ?_
    refine AllReady.cons rfl (fun K hK => ?_) (AllReady.cons rfl (fun K hK => ?_) AllReady.nil)
    · go_simp
      refine hK _ _ ?_
      clear hK K
      (refine wpAny_ready (rs := [1]) (by kernel_rfl) (by simp) ?_; refine AllReady.cons rfl (fun K hK => ?_) AllReady.nil; go_simp; refine hK _ _ ?_; clear hK K)
      refine wpAny_ready (rs := [2]) (by kernel_rfl) (by simp) ?_
      refine AllReady.cons rfl (fun K hK => ?_) AllReady.nil
      go_simp
      refine HF4.out.mono ?_
      rintro e w5 ⟨rfl, hb5⟩
      go_simp
      refine hK _ _ ?_
      clear hK K
      (refine wpAny_ready (rs := [3]) (by kernel_rfl) (by simp) ?_; refine AllReady.cons rfl (fun K hK => ?_) AllReady.nil; go_simp; refine hK _ _ ?_; clear hK K)
      (refine wpAny_ready (rs := [4]) (by kernel_rfl) (by simp) ?_; refine AllReady.cons rfl (fun K hK => ?_) AllReady.nil; go_simp; refine hK _ _ ?_; clear hK K)
      (refine wpAny_ready (rs := [5]) (by kernel_rfl) (by simp) ?_; refine AllReady.cons rfl (fun K hK => ?_) AllReady.nil; go_simp; refine hK _ _ ?_; clear hK K)
      refine wpAny_done (by kernel_rfl) ?_ _
      go_wp2_with fail
      go_meet
      have hZ5 : Below w3.heap.size w3 w5 := hdb.trans (hb5.mono hdb.size)
      have hat : CAt w3.heap.size w5.heap.size ⟨⟨nm, P, L, bh, body⟩, A, c, fr⟩ [] 0 (w5.alloc (.cells #[.string nm, .int .i64 P, .int .i64 L, .bool bh, .slice A N c, .int .i64 fr, .slice none 0 0, .int .i64 0] 143)) := by
        refine ⟨hZ5.size, .slice none 0 0, ?_, rfl, Or.inl ⟨rfl, rfl⟩⟩
        rw [heap_alloc_new]
        unfold cCells
        simp only [← HN.out]
      exact ⟨w5.heap.size, rfl, Lib.hid hat, Lib.hid (hZ5.alloc hZ5.size _)⟩
    · go_simp
      refine hK _ _ ?_
      clear hK K
      refine wpAny_ready (rs := [0, 2]) (by kernel_rfl) (by simp) ?_
      refine AllReady.cons rfl (fun K hK => ?_) (AllReady.cons rfl (fun K hK => ?_) AllReady.nil)
      · go_simp
        refine hK _ _ ?_
        clear hK K
        refine wpAny_ready (rs := [2]) (by kernel_rfl) (by simp) ?_
        refine AllReady.cons rfl (fun K hK => ?_) AllReady.nil
        go_simp
        refine HF4.out.mono ?_
        rintro e w5 ⟨rfl, hb5⟩
        go_simp
        refine hK _ _ ?_
        clear hK K
        (refine wpAny_ready (rs := [3]) (by kernel_rfl) (by simp) ?_; refine AllReady.cons rfl (fun K hK => ?_) AllReady.nil; go_simp; refine hK _ _ ?_; clear hK K)
        (refine wpAny_ready (rs := [4]) (by kernel_rfl) (by simp) ?_; refine AllReady.cons rfl (fun K hK => ?_) AllReady.nil; go_simp; refine hK _ _ ?_; clear hK K)
        (refine wpAny_ready (rs := [5]) (by kernel_rfl) (by simp) ?_; refine AllReady.cons rfl (fun K hK => ?_) AllReady.nil; go_simp; refine hK _ _ ?_; clear hK K)
        refine wpAny_done (by kernel_rfl) ?_ _
        go_wp2_with fail
        go_meet
        have hZ5 : Below w3.heap.size w3 w5 := hdb.trans (hb5.mono hdb.size)
        have hat : CAt w3.heap.size w5.heap.size ⟨⟨nm, P, L, bh, body⟩, A, c, fr⟩ [] 0 (w5.alloc (.cells #[.string nm, .int .i64 P, .int .i64 L, .bool bh, .slice A N c, .int .i64 fr, .slice none 0 0, .int .i64 0] 143)) := by
          refine ⟨hZ5.size, .slice none 0 0, ?_, rfl, Or.inl ⟨rfl, rfl⟩⟩
          rw [heap_alloc_new]
          unfold cCells
          simp only [← HN.out]
        exact ⟨w5.heap.size, rfl, Lib.hid hat, Lib.hid (hZ5.alloc hZ5.size _)⟩
      · go_simp
        refine HF4.out.mono ?_
        rintro e w5 ⟨rfl, hb5⟩
        go_simp
        refine hK _ _ ?_
        clear hK K
        have Hr5 := Lib.hid ((hb5.block _ (by omega)).trans Hr4.out)
        clear k0 k1 k2 k3 k4
        have k0 : w5.cell? ⟨w.heap.size, 0, none⟩ = some (.string nm) := by rw [Lib.cell_of_heap Hr5.out]; rfl
        have k1 : w5.cell? ⟨w.heap.size, 1, none⟩ = some (.int .i64 P) := by rw [Lib.cell_of_heap Hr5.out]; rfl
        have k2 : w5.cell? ⟨w.heap.size, 2, none⟩ = some (.int .i64 L) := by rw [Lib.cell_of_heap Hr5.out]; rfl
        have k3 : w5.cell? ⟨w.heap.size, 3, none⟩ = some (.bool bh) := by rw [Lib.cell_of_heap Hr5.out]; rfl
        have k4 : w5.cell? ⟨w.heap.size, 4, none⟩ = some (.slice A N c) := by rw [Lib.cell_of_heap Hr5.out]; rfl
        (refine wpAny_ready (rs := [0]) (by kernel_rfl) (by simp) ?_; refine AllReady.cons rfl (fun K hK => ?_) AllReady.nil; go_simp; refine hK _ _ ?_; clear hK K)
        (refine wpAny_ready (rs := [3]) (by kernel_rfl) (by simp) ?_; refine AllReady.cons rfl (fun K hK => ?_) AllReady.nil; go_simp; refine hK _ _ ?_; clear hK K)
        (refine wpAny_ready (rs := [4]) (by kernel_rfl) (by simp) ?_; refine AllReady.cons rfl (fun K hK => ?_) AllReady.nil; go_simp; refine hK _ _ ?_; clear hK K)
        (refine wpAny_ready (rs := [5]) (by kernel_rfl) (by simp) ?_; refine AllReady.cons rfl (fun K hK => ?_) AllReady.nil; go_simp; refine hK _ _ ?_; clear hK K)
        refine wpAny_done (by kernel_rfl) ?_ _
        go_wp2_with fail
        go_meet
        have hZ5 : Below w3.heap.size w3 w5 := hdb.trans (hb5.mono hdb.size)
        have hat : CAt w3.heap.size w5.heap.size ⟨⟨nm, P, L, bh, body⟩, A, c, fr⟩ [] 0 (w5.alloc (.cells #[.string nm, .int .i64 P, .int .i64 L, .bool bh, .slice A N c, .int .i64 fr, .slice none 0 0, .int .i64 0] 143)) := by
          refine ⟨hZ5.size, .slice none 0 0, ?_, rfl, Or.inl ⟨rfl, rfl⟩⟩
          rw [heap_alloc_new]
          unfold cCells
          simp only [← HN.out]
        exact ⟨w5.heap.size, rfl, Lib.hid hat, Lib.hid (hZ5.alloc hZ5.size _)⟩
  case rest =>
    obtain ⟨p, rfl, HC, HB⟩ := hcut
    obtain ⟨-, p0, p1, p2, p3, hkb⟩ := chkB_parts' h0
    simp only at p0 p1 p2 p3 hkb
    have hfe : S.frameB ⟨nm, P, L, bh, body⟩ = L + 15 := by show (if _ then _ else _) = _; rw [if_neg (by simpa using h0)]
    have hfr1 : fr = L + 15 := by rw [Hfrd.out, hfe]
    have hO : HOk ⟨⟨nm, P, L, bh, body⟩, A, c, fr⟩ := ⟨by show 0 ≤ fr; omega, by show fr ≤ 1000; omega, by show 0 ≤ L; omega, by show L ≤ 200; omega⟩
    have hT : S.bItems ⟨nm, P, L, bh, body⟩ = [S.bL nm, S.bI 25 0 28 31 0] ++ S.bParams P.toNat ++ [S.bI 15 28 28 0 fr] ++ (bSs ⟨⟨nm, P, L, bh, body⟩, A, c, fr⟩ body 0).1 ++ S.bBack fr bh := by
      show ([S.bL nm, S.bI 25 0 28 31 0] ++ S.bParams P.toNat ++ [S.bI 15 28 28 0 (S.frameB _)]) ++ (S.bStmts (S.frameB _) L bh body 0).1 ++ S.bBack (S.frameB _) bh = _
      rw [← Hfrd.out]
    have hTl : (S.bItems ⟨nm, P, L, bh, body⟩).length = 2 + P.toNat + 1 + (bSs ⟨⟨nm, P, L, bh, body⟩, A, c, fr⟩ body 0).1.length + (S.bBack fr bh).length := by
      rw [hT]
      simp only [List.length_append, List.length_cons, List.length_nil, bParams_len]
    have HT := Lib.hid hT
    rw [hTl] at hl
    have HR := Lib.hid hR.body
    have HZc := Lib.hid (HZ3.out.trans (HB.out.mono HZ3.out.size))
    have HLc := Lib.hid (hL.on HZc.out)
    have Hrc := Lib.hid ((HB.out.block _ (by omega)).trans Hr3.out)
    have Hoc := Lib.hid ((HB.out.block _ (by omega)).trans Ho3.out)
    have hbc := HB.out.size
    have h3B : 3 ≤ w3.heap.size := Nat.le_trans hL.size (Nat.le_trans (by omega) hz3)
    have HRB := Lib.hid ((hR.body.below HZ3.out).more HZ3.out.size)
    obtain ⟨B0, hB0⟩ : ∃ B0, B0 = w3.heap.size := ⟨_, rfl⟩
    rw [← hB0] at HC HB hbc h3B hz3 HRB
    obtain ⟨h, hh⟩ : ∃ h : CH, h = ⟨⟨nm, P, L, bh, body⟩, A, c, fr⟩ := ⟨_, rfl⟩
    rw [← hh] at HC hO hl HT
    have Hh := Lib.hid hh
    have k0 : wc.cell? ⟨w.heap.size, 0, none⟩ = some (.string nm) := by rw [Lib.cell_of_heap Hrc.out]; rfl
    clear hTl hT hfe hh hfr1 k1 k2 k3 k4 hR hL h0 Hck Hfr Hr3 Ho3
    have Hc1 := Lib.hid (c_label HC.out hbc (by simp) nm)
    go_wp2_with fail
    refine Hc1.out.mono ?_
    rintro e w5 ⟨rfl, g1, g2⟩
    have hb5 : B0 ≤ w5.heap.size := by have := g2.size; omega
    have Hc2 := Lib.hid (c_inst g1 hb5 (by simp) 25 0 28 31 0)
    go_wp2_with fail
    refine Hc2.out.mono ?_
    rintro e w6 ⟨rfl, g3, g4⟩
    have hb6 : B0 ≤ w6.heap.size := by have := g4.size; omega
    have HK6 := Lib.hid (g2.trans g4)
    have Hr6 := Lib.hid (HK6.out.keep _ _ _ _ Hrc.out (by decide) (by decide))
    have k1 : w6.cell? ⟨w.heap.size, 1, none⟩ = some (.int .i64 P) := by rw [Lib.cell_of_heap Hr6.out]; rfl
    have HC6 := Lib.hid g3
    clear g1 g2 g3 g4 Hc1 Hc2 k0
    have Hhf := Lib.hid (show h.fr = fr from by rw [Hh.out])
    go_wp2_with fail
    go_loopw [29] (fun v29 wr => ∃ k : Nat, k ≤ P.toNat ∧ v29 = .int .i64 k ∧ Hid (CAt B0 p h ([S.bL nm, S.bI 25 0 28 31 0] ++ S.bParams k) 0 wr) ∧ Hid (CK B0 w6 wr)) (fun v29 _ => P.toNat - (intOf v29).toNat)
    case atStart => exact ⟨0, by omega, rfl, Lib.hid (by simpa [S.bParams] using HC6.out), Lib.hid (CK.refl _ _)⟩
    case round =>
      obtain ⟨k, hk, rfl, HC2, HK2⟩ := hrel
      obtain ⟨wo, hwo⟩ : ∃ wo, wo = wr := ⟨_, rfl⟩
      subst hwo
      have hso : B0 ≤ wo.heap.size := by have := HK2.out.size; omega
      have hl2 : ([S.bL nm, S.bI 25 0 28 31 0] ++ S.bParams k).length = 2 + k := by simp only [List.length_append, List.length_cons, List.length_nil, bParams_len]
      by_cases hlt : k < P.toNat
      · have hkP : (k : Int) < P := by omega
        have Hlo := Lib.hid (c_local (k : Int) (by omega) wo)
        have Hc := Lib.hid (c_inst HC2.out hso (by rw [hl2]; omega) 25 0 28 (4 + (k : Int)) (1 + (k : Int)))
        clear hl2
        go_wp2_with fail
        refine Hlo.out.mono ?_
        rintro e w3' ⟨rfl, rfl⟩
        go_wp2_with fail
        refine Hc.out.mono ?_
        rintro e w7 ⟨rfl, g1, g2⟩
        go_wp2_with fail
        go_roundw
        case rel => exact ⟨k + 1, by omega, by go_num, Lib.hid (by rw [S.bParams, ← List.append_assoc]; exact g1), Lib.hid (HK2.out.trans g2)⟩
        case measure => simp [intOf]; omega
      · have hkP : ¬ (k : Int) < P := by omega
        have hkN : P.toNat = k := by omega
        have Hr7 := Lib.hid (HK2.out.keep _ _ _ _ Hr6.out (by decide) (by decide))
        have c5 := HC2.out.cell_fr
        rw [Hhf.out] at c5
        have Hc := Lib.hid (c_inst HC2.out hso (by rw [hl2]; omega) 15 28 28 0 fr)
        rw [← hkN] at hl2 Hc
        clear HC2 k1
        go_wp2_with fail
        refine Hc.out.mono ?_
        rintro e w7 ⟨rfl, g1, g2⟩
        have hs7 : B0 ≤ w7.heap.size := by have := g2.size; omega
        have HK7 := Lib.hid (HK6.out.trans (HK2.out.trans g2))
        have Hr8 := Lib.hid (g2.keep _ _ _ _ Hr7.out (by decide) (by decide))
        have k4 : w7.cell? ⟨w.heap.size, 4, none⟩ = some (.slice A N c) := by rw [Lib.cell_of_heap Hr8.out]; rfl
        have hl7 : ([S.bL nm, S.bI 25 0 28 31 0] ++ S.bParams P.toNat ++ [S.bI 15 28 28 0 fr]).length = 2 + P.toNat + 1 := by rw [List.length_append, hl2]; rfl
        obtain ⟨zs, hzs⟩ : ∃ zs, zs = [S.bL nm, S.bI 25 0 28 31 0] ++ S.bParams P.toNat ++ [S.bI 15 28 28 0 fr] := ⟨_, rfl⟩
        rw [← hzs] at g1 hl7 HT
        have HC7 := Lib.hid g1
        have HL7 := Lib.hid (HLc.out.keep HK7.out.below h3B)
        have HB7 := Lib.hid (HRB.out.below (HB.out.trans HK7.out.below))
        have HK07 := Lib.hid (HK7.out)
        clear hzs g1 g2 hl2 c5 HK2 Hr7 HK6 Hr6 HC6 Hc
        have hle := len_szSs body
        rw [← HN.out] at hle
        have hbh : h.r.behind = bh := by rw [Hh.out]
        have hbk := bBack_len fr bh
        have hhk : S.chkSs h.r.locals body 0 = 0 := by rw [Hh.out]; exact hkb
        have Hih := Lib.hid (c_stmt (p := p) hO h3B 1000000 (Nat.le_refl _))
        go_wp2_with fail
        go_loopw [50] (fun v50 wr => ∃ k : Nat, k ≤ N ∧ v50 = .int .i64 k ∧ Hid (CAt B0 p h (zs ++ (bSs h (body.take k) 0).1) (bSs h (body.take k) 0).2 wr) ∧ Hid (CK B0 w7 wr)) (fun v50 _ => N - (intOf v50).toNat)
        case atStart => exact ⟨0, by omega, rfl, Lib.hid (by simpa [S.bStmts] using HC7.out), Lib.hid (CK.refl _ _)⟩
        case round =>
          obtain ⟨k2, hk2, rfl, HC3, HK3⟩ := hrel
          obtain ⟨wo3, hwo3⟩ : ∃ wo3, wo3 = wr := ⟨_, rfl⟩
          subst hwo3
          have hs3 : B0 ≤ wo3.heap.size := by have := HK3.out.size; omega
          by_cases hlt2 : k2 < N
          · obtain ⟨s1, hs1⟩ : ∃ s1, body[k2]? = some s1 := ⟨_, List.getElem?_eq_getElem (by rw [← HN.out]; exact hlt2)⟩
            obtain ⟨b', off', A1', c1', A2', c2', A3', c3', A4', c4', M1, M2, M3, M4, op', en', nm', rfl, hbB', e0, e1, e2, e3, e4, e5, e6, hrec⟩ := body_round Hih.out h3B hsz hhk (HB7.out.below HK3.out.below) hs1 HC3.out hs3 (HL7.out.keep HK3.out.below h3B) (by omega) (by omega) (by rw [hl7]; omega)
            have hbr' : b' < wo3.heap.size := by omega
            have hbY : Below wo3.heap.size wo3 (wo3.alloc (.cells #[.int .i64 op', .int .i64 en', .string nm', .slice A1' M1 c1', .slice A2' M2 c2', .slice A3' M3 c3', .slice A4' M4 c4'] 29)) := (Below.refl _ _).alloc (Nat.le_refl _) _
            have Hrec := Lib.hid (hrec _ hbY)
            have HbY := Lib.hid (CK.of hbY hs3)
            clear hrec hbY hs1 hbh hl7
            go_wp2_with fail
            refine Hrec.out.mono ?_
            rintro e w8 ⟨rfl, g1, g2⟩
            go_wp2_with fail
            go_roundw
            case rel => exact ⟨k2 + 1, by omega, by go_num, Lib.hid g1, Lib.hid (HK3.out.trans (HbY.out.trans g2))⟩
            case measure => simp [intOf]; omega
          · have hkN2 : N = k2 := by omega
            subst hkN2
            have ht : body.take N = body := by rw [HN.out, List.take_length]
            rw [ht] at HC3
            have Hb := Lib.hid (c_back HC3.out hs3 (by rw [List.length_append, hl7]; omega) hO)
            rw [Hhf.out, hbh] at Hb
            have Hhfx := Lib.hid hbh
            clear ht hbh hl7
            go_wp2_with fail
            refine Hb.out.mono ?_
            rintro e w8 ⟨rfl, g1, g2⟩
            have hs8 : B0 ≤ w8.heap.size := by have := g2.size; omega
            have HK8 := Lib.hid (HK07.out.trans (HK3.out.trans g2))
            have Hr9 := Lib.hid (HK8.out.keep _ _ _ _ Hrc.out (by decide) (by decide))
            have Ho9 := Lib.hid (HK8.out.keep _ _ _ _ Hoc.out (by decide) (by decide))
            have k0 : w8.cell? ⟨w.heap.size, 0, none⟩ = some (.string nm) := by rw [Lib.cell_of_heap Hr9.out]; rfl
            have j0 : w8.cell? ⟨w.heap.size + 1, 0, none⟩ = some (.string ⟨#[]⟩) := by rw [Lib.cell_of_heap Ho9.out]; rfl
            have j1 : w8.cell? ⟨w.heap.size + 1, 1, none⟩ = some (.slice none 0 0) := by rw [Lib.cell_of_heap Ho9.out]; rfl
            have f0 : w8.frozen? ⟨w.heap.size + 1, 0, none⟩ = false := Lib.frozen_of_heap Ho9.out 0
            have f1 : w8.frozen? ⟨w.heap.size + 1, 1, none⟩ = false := Lib.frozen_of_heap Ho9.out 1
            obtain ⟨hlow, v, hkp, hov⟩ := g1
            rw [List.append_assoc, ← List.append_assoc] at hov
            have hTT : (zs ++ (bSs h body 0).1) ++ S.bBack fr bh = S.bItems ⟨nm, P, L, bh, body⟩ := HT.out.symm
            have c6 : w8.cell? ⟨p, 6, none⟩ = some v := by rw [Lib.cell_of_heap hkp]; rfl
            obtain ⟨A', cc', rfl⟩ := ownsRow_form hov
            rw [hTT] at hov c6
            have Hov := Lib.hid hov
            have Hkp := Lib.hid hkp
            have HZ8 := Lib.hid (HZc.out.trans (HK8.out.below.mono (by omega)))
            clear hov hkp hTT
            obtain ⟨T, hTg⟩ : ∃ T, T = S.bItems ⟨nm, P, L, bh, body⟩ := ⟨_, rfl⟩
            rw [← hTg] at Hov c6
            have HTg := Lib.hid hTg
            clear hTg
            go_upto_region 19 with fail
            go_still_tail 7, (by kernel_rfl)
            go_wp2_with fail
            have hnq : (Value.slice A' T.length cc').ownBlock ≠ some (w.heap.size + 1) := own_neB Hov.out Ho9.out (by decide)
            (try simp only [Exit.inBlock, Exit.then])
            refine bodyPost_ret (v := .tuple #[.agg #[.string nm, .slice A' T.length cc'], .int .i64 0]) (by rw [results_cell_tmp rfl]; go_simp) rfl ?_
            have hZ9 : Below w.heap.size w ((w8.setCell ⟨w.heap.size + 1, 0, none⟩ (.string nm)).setCell ⟨w.heap.size + 1, 1, none⟩ (.slice A' T.length cc')).drew := ((HZ8.out.setCell (p := ⟨w.heap.size + 1, 0, none⟩) (by show w.heap.size ≤ w.heap.size + 1; omega) _).setCell (p := ⟨w.heap.size + 1, 1, none⟩) (by show w.heap.size ≤ w.heap.size + 1; omega) _).trans ⟨rfl, rfl, rfl, Nat.le_refl _, fun _ _ => rfl⟩
            refine BPost.mk' HTg.out ?_ hZ9
            have ho9 := ownsRow_setCell_other (a := ⟨w.heap.size + 1, 1, none⟩) (ownsRow_setCell_other (a := ⟨w.heap.size + 1, 0, none⟩) Hov.out hnq (.string nm)) hnq (.slice A' T.length cc')
            exact ownsRow_base (ownsRow_below ho9 ⟨rfl, rfl, rfl, Nat.le_refl _, fun _ _ => rfl⟩) (by omega)

end Go.Proofs.YtlldagdhlfpihaaGreatDoor
