/- Walks of lands and takes, of the law AsmLeads. -/
import Derived.Test.YtfdmbjkofchhiaaIsaE
import Derived.Test.YtfdmbjkofchhiaaExt
set_option linter.unusedVariables false
set_option linter.unusedSimpArgs false
set_option linter.unusedSectionVars false
namespace Go.Proofs.Ytfdmbjkofchhiaa
open Go.RowKit

theorem i64_halves (t : Int) (h0 : 0 ≤ t) (h1 : t ≤ 67108864) : bits .or .i64 (t / 65536 * 65536) (t % 65536) = t := by
  have h := bits_join .i64 63 (by decide) (fun n a b => by rw [IntKind.wrap_i64]; omega) 16 (t / 65536 * 65536) (t % 65536) (by omega) (by omega) (by omega) (by omega) (by omega) (by omega)
  rw [h]; omega

set_option maxHeartbeats 1000000 in
theorem law_lands_1 (x : S.Inst) (hg : S.good x = true) (b off c : Nat) (at_ : Int) (w : World) (hb : b < w.heap.size) (hc : w.cell? ⟨b, off, none⟩ = some (.int .u32 (S.enc x))) (a0 : 0 ≤ at_) (a1 : at_ ≤ 134217728) :
    Calls Try.prog 23 #[.slice (some ⟨b, off, none⟩) 1 c, .int .i64 at_] w
      fun e w' => e = .returned (.int .i64 (at_ + 1 + x.imm)) ∧ Below w.heap.size w w' := by
  obtain ⟨u0, u1⟩ := enc_bd hg
  have Hd := Lib.hid (dec_enc hg)
  have hi : -1048576 ≤ x.imm ∧ x.imm ≤ 1048575 := by
    obtain ⟨op, d, a, b, imm⟩ := x
    obtain ⟨_, _, _, _, _, _, _, _, hw⟩ := good_ways hg
    simp only
    omega
  obtain ⟨i0, i1⟩ := hi
  clear hg
  go_enter Try.func23, Try.ntmps23
  go_wp2_with fail
  refine (isa_Decode _ _ u0 u1).mono ?_
  rintro e w1 ⟨rfl, hb1⟩
  rw [Hd.out.1, Hd.out.2]
  obtain ⟨hc1, hc2⟩ := bcell hb1
  have hz := hb1.size
  go_wp2_with fail
  go_ret
  exact ⟨rfl, hb1.alloc hz _⟩

set_option maxHeartbeats 2000000 in
theorem law_lands_3 (dst d : Int) (t0 : 0 ≤ dst) (t1 : dst ≤ 67108864) (hg1 : S.good ⟨23, 25, 0, 0, dst / 65536⟩ = true) (hg2 : S.good ⟨17, 25, 25, 0, dst % 65536⟩ = true) (hg3 : S.good ⟨33, d, 25, 0, 0⟩ = true)
    (b off c : Nat) (at_ : Int) (w : World) (hb : b < w.heap.size) (hc : w.cell? ⟨b, off, none⟩ = some (.int .u32 (S.enc ⟨23, 25, 0, 0, dst / 65536⟩)))
    (hc' : w.cell? ⟨b, off + 1, none⟩ = some (.int .u32 (S.enc ⟨17, 25, 25, 0, dst % 65536⟩))) (hc'' : w.cell? ⟨b, off + 2, none⟩ = some (.int .u32 (S.enc ⟨33, d, 25, 0, 0⟩))) :
    Calls Try.prog 23 #[.slice (some ⟨b, off, none⟩) 3 c, .int .i64 at_] w
      fun e w' => e = .returned (.int .i64 dst) ∧ Below w.heap.size w w' := by
  obtain ⟨u0, u1⟩ := enc_bd hg1
  obtain ⟨u2, u3⟩ := enc_bd hg2
  obtain ⟨u4, u5⟩ := enc_bd hg3
  have Hd1 := Lib.hid (dec_enc hg1)
  have Hd2 := Lib.hid (dec_enc hg2)
  have Hd3 := Lib.hid (dec_enc hg3)
  have ho := i64_halves dst t0 t1
  have q0 : 0 ≤ dst / 65536 := by omega
  have q1 : dst / 65536 ≤ 1024 := by omega
  have q2 : 0 ≤ dst % 65536 := by omega
  have q3 : dst % 65536 ≤ 65535 := by omega
  clear hg1 hg2 hg3
  go_enter Try.func23, Try.ntmps23
  go_wp2_with fail
  refine (isa_Decode _ _ u0 u1).mono ?_
  rintro e w1 ⟨rfl, hb1⟩
  rw [Hd1.out.1, Hd1.out.2]
  obtain ⟨hc1, hc2⟩ := bcell hb1
  have hz := hb1.size
  have g1 : b < w1.heap.size := by omega
  have Hb1 := Lib.hid hb1
  clear hb1
  go_wp2_with fail
  refine (isa_Decode _ _ u2 u3).mono ?_
  rintro e w2 ⟨rfl, hb2⟩
  rw [Hd2.out.1, Hd2.out.2]
  obtain ⟨hc3, hc4⟩ := bcell hb2
  have hz2 := hb2.size
  have Hb2 := Lib.hid hb2
  clear hb2
  simp at hz2
  have g2 : b < w2.heap.size := by omega
  go_wp2_with fail
  refine (isa_Decode _ _ u4 u5).mono ?_
  rintro e w3 ⟨rfl, hb3⟩
  rw [Hd3.out.1, Hd3.out.2]
  obtain ⟨hc5, hc6⟩ := bcell hb3
  have hz3 := hb3.size
  have Hb3 := Lib.hid hb3
  clear hb3
  simp at hz3
  have g3 : b < w3.heap.size := by omega
  have g4 : w1.heap.size < w2.heap.size := by omega
  have g5 : w1.heap.size < w3.heap.size := by omega
  have g6 : w2.heap.size < w3.heap.size := by omega
  go_wp2_with fail
  go_ret
  refine ⟨rfl, ?_⟩
  have k1 : Below w.heap.size w w1 := Hb1.out
  have k2 := k1.alloc hz (.cells #[.int .i64 23, .int .i64 25, .int .i64 0, .int .i64 0, .int .i64 (dst / 65536)] 41)
  have k3 := k2.trans (Hb2.out.mono (by simp; omega))
  have k4 := k3.alloc (by omega) (.cells #[.int .i64 17, .int .i64 25, .int .i64 25, .int .i64 0, .int .i64 (dst % 65536)] 41)
  have k5 := k4.trans (Hb3.out.mono (by simp; omega))
  exact k5.alloc (by omega) _

set_option maxHeartbeats 2000000 in
theorem law_takes_1 (k op d a b' imm : Int) (lab : ByteArray) (wd j : Int) (hg : S.good ⟨op, 0, a, b', j⟩ = true) (b off c : Nat) (at_ : Int) (w : World) (hb : b < w.heap.size)
    (hc : w.cell? ⟨b, off, none⟩ = some (.int .u32 (S.enc ⟨op, 0, a, b', j⟩))) (a0 : 0 ≤ at_) (a1 : at_ ≤ 67108864) :
    Calls Try.prog 24 #[.slice (some ⟨b, off, none⟩) 1 c, .agg #[.int .i64 k, .int .i64 op, .int .i64 d, .int .i64 a, .int .i64 b', .int .i64 imm, .string lab, .int .u32 wd], .int .i64 at_, .int .i64 (at_ + 1 + j)] w
      fun e w' => e = .returned (.bool true) ∧ Below w.heap.size w w' := by
  obtain ⟨u0, u1⟩ := enc_bd hg
  have Hd := Lib.hid (dec_enc hg)
  have hi : -1048576 ≤ j ∧ j ≤ 1048575 := by
    obtain ⟨_, _, _, _, _, _, _, _, hw⟩ := good_ways hg
    omega
  obtain ⟨i0, i1⟩ := hi
  clear hg
  go_enter Try.func24, Try.ntmps24
  go_wp2_with fail
  refine (isa_Decode _ _ u0 u1).mono ?_
  rintro e w1 ⟨rfl, hb1⟩
  rw [Hd.out.1, Hd.out.2]
  obtain ⟨hc1, hc2⟩ := bcell hb1
  have hz := hb1.size
  simp at hz
  have Hb := Lib.hid hb1
  clear hb1
  have g0 : b < w1.heap.size := by omega
  have g1 : w.heap.size < w1.heap.size := by omega
  go_wp2_with fail
  go_ret
  refine ⟨rfl, ?_⟩
  exact (((Below.refl _ _).alloc (Nat.le_refl _) _).trans (Hb.out.mono (by simp))).alloc (by omega) _

set_option maxHeartbeats 2000000 in
theorem law_takes_2 (k op d a b' imm : Int) (lab : ByteArray) (wd : Int) (y : S.Inst) (hg : S.good ⟨S.turned op, 0, a, b', 1⟩ = true) (hy : S.good y = true) (b off c : Nat) (at_ : Int) (w : World) (hb : b < w.heap.size)
    (hc : w.cell? ⟨b, off, none⟩ = some (.int .u32 (S.enc ⟨S.turned op, 0, a, b', 1⟩))) (hc' : w.cell? ⟨b, off + 1, none⟩ = some (.int .u32 (S.enc y))) (hcap : 2 ≤ c) (hcm : c ≤ maxLen) (a0 : 0 ≤ at_) (a1 : at_ ≤ 67108864) :
    Calls Try.prog 24 #[.slice (some ⟨b, off, none⟩) 2 c, .agg #[.int .i64 k, .int .i64 op, .int .i64 d, .int .i64 a, .int .i64 b', .int .i64 imm, .string lab, .int .u32 wd], .int .i64 at_, .int .i64 (at_ + 1 + 1 + y.imm)] w
      fun e w' => e = .returned (.bool true) ∧ Below w.heap.size w w' := by
  obtain ⟨u0, u1⟩ := enc_bd hg
  have Hd := Lib.hid (dec_enc hg)
  have Hy := Lib.hid hy
  clear hg hy
  unfold maxLen at hcm
  go_enter Try.func24, Try.ntmps24
  go_wp2_with fail
  refine (isa_Decode _ _ u0 u1).mono ?_
  rintro e w1 ⟨rfl, hb1⟩
  rw [Hd.out.1, Hd.out.2]
  obtain ⟨hc1, hc2⟩ := bcell hb1
  have hz := hb1.size
  simp at hz
  have Hb := Lib.hid hb1
  clear hb1
  have g0 : b < w1.heap.size := by omega
  have g1 : w.heap.size < w1.heap.size := by omega
  go_wp2_with fail
  refine wp_region_ext (by kernel_rfl) (by kernel_rfl) ?_
  have hE := ext_cells (w1.alloc (.cells #[.int .i64 (S.turned op), .int .i64 0, .int .i64 a, .int .i64 b', .int .i64 1] 41))
  have hE5 : ∀ x : Ext (w1.alloc (.cells #[.int .i64 (S.turned op), .int .i64 0, .int .i64 a, .int .i64 b', .int .i64 1] 41)), x.val.cell? ⟨b, off + 1, none⟩ = some (.int .u32 (S.enc y)) ∧ b < x.val.heap.size := fun x => by
    have h1 := hE x b (off + 1) (by simp; omega)
    have h2 := x.property.size
    simp at h2
    refine ⟨h1.trans ?_, by omega⟩
    go_simp
  have HE5 := Lib.hid hE5
  clear hE5
  repeat (first
    | go_big_quiet_step ((first
      | (go_at_call 15; exact ext_of_same (asm_Turned _ _))
      | (go_at_call 23; exact ext_of (law_lands_1 y Hy.out b (off + 1) _ _ _ (HE5.out _).2 (HE5.out _).1 (by omega) (by omega))))))
  refine wpQuiet_nil ?_
  rintro _ ⟨⟨w2, hb2⟩, rfl⟩
  go_wp2
  go_ret
  refine ⟨rfl, ?_⟩
  exact ((((Below.refl _ _).alloc (Nat.le_refl _) _).trans (Hb.out.mono (by simp))).alloc (by omega) _).trans (hb2.mono (by simp; omega))

set_option maxHeartbeats 2000000 in
theorem law_takes_4 (k op d a b' imm : Int) (lab : ByteArray) (wd dst : Int) (t0 : 0 ≤ dst) (t1 : dst ≤ 67108864) (hg1 : S.good ⟨23, 25, 0, 0, dst / 65536⟩ = true) (hg2 : S.good ⟨17, 25, 25, 0, dst % 65536⟩ = true) (hg3 : S.good ⟨33, 0, 25, 0, 0⟩ = true)
    (hg : S.good ⟨S.turned op, 0, a, b', 3⟩ = true) (b off c : Nat) (at_ : Int) (w : World) (hb : b < w.heap.size)
    (hc : w.cell? ⟨b, off, none⟩ = some (.int .u32 (S.enc ⟨S.turned op, 0, a, b', 3⟩))) (hc1 : w.cell? ⟨b, off + 1, none⟩ = some (.int .u32 (S.enc ⟨23, 25, 0, 0, dst / 65536⟩)))
    (hc2 : w.cell? ⟨b, off + 2, none⟩ = some (.int .u32 (S.enc ⟨17, 25, 25, 0, dst % 65536⟩))) (hc3 : w.cell? ⟨b, off + 3, none⟩ = some (.int .u32 (S.enc ⟨33, 0, 25, 0, 0⟩)))
    (hcap : 4 ≤ c) (hcm : c ≤ maxLen) (a0 : 0 ≤ at_) (a1 : at_ ≤ 67108864) :
    Calls Try.prog 24 #[.slice (some ⟨b, off, none⟩) 4 c, .agg #[.int .i64 k, .int .i64 op, .int .i64 d, .int .i64 a, .int .i64 b', .int .i64 imm, .string lab, .int .u32 wd], .int .i64 at_, .int .i64 dst] w
      fun e w' => e = .returned (.bool true) ∧ Below w.heap.size w w' := by
  obtain ⟨u0, u1⟩ := enc_bd hg
  have Hd := Lib.hid (dec_enc hg)
  have Hy1 := Lib.hid hg1
  have Hy2 := Lib.hid hg2
  have Hy3 := Lib.hid hg3
  clear hg hg1 hg2 hg3
  unfold maxLen at hcm
  go_enter Try.func24, Try.ntmps24
  go_wp2_with fail
  refine (isa_Decode _ _ u0 u1).mono ?_
  rintro e w1 ⟨rfl, hb1⟩
  rw [Hd.out.1, Hd.out.2]
  obtain ⟨hd1, hd2⟩ := bcell hb1
  have hz := hb1.size
  simp at hz
  have Hb := Lib.hid hb1
  clear hb1
  have g0 : b < w1.heap.size := by omega
  have g1 : w.heap.size < w1.heap.size := by omega
  go_wp2_with fail
  refine wp_region_ext (by kernel_rfl) (by kernel_rfl) ?_
  have hE := ext_cells (w1.alloc (.cells #[.int .i64 (S.turned op), .int .i64 0, .int .i64 a, .int .i64 b', .int .i64 3] 41))
  have hE5 : ∀ x : Ext (w1.alloc (.cells #[.int .i64 (S.turned op), .int .i64 0, .int .i64 a, .int .i64 b', .int .i64 3] 41)), x.val.cell? ⟨b, off + 1, none⟩ = some (.int .u32 (S.enc ⟨23, 25, 0, 0, dst / 65536⟩)) ∧ x.val.cell? ⟨b, off + 1 + 1, none⟩ = some (.int .u32 (S.enc ⟨17, 25, 25, 0, dst % 65536⟩)) ∧ x.val.cell? ⟨b, off + 1 + 2, none⟩ = some (.int .u32 (S.enc ⟨33, 0, 25, 0, 0⟩)) ∧ b < x.val.heap.size := fun x => by
    have h1 := hE x b (off + 1) (by simp; omega)
    have h2 := hE x b (off + 2) (by simp; omega)
    have h3 := hE x b (off + 3) (by simp; omega)
    have h4 := x.property.size
    simp at h4
    refine ⟨h1.trans ?_, h2.trans ?_, h3.trans ?_, by omega⟩
    · go_simp
    · go_simp
    · go_simp
  have HE5 := Lib.hid hE5
  clear hE5
  repeat (first
    | go_big_quiet_step ((first
      | (go_at_call 15; exact ext_of_same (asm_Turned _ _))
      | (go_at_call 23; exact ext_of (law_lands_3 dst 0 t0 t1 Hy1.out Hy2.out Hy3.out b (off + 1) _ _ _ (HE5.out _).2.2.2 (HE5.out _).1 (HE5.out _).2.1 (HE5.out _).2.2.1)))))
  refine wpQuiet_nil ?_
  rintro _ ⟨⟨w2, hb2⟩, rfl⟩
  go_wp2
  go_ret
  refine ⟨rfl, ?_⟩
  exact ((((Below.refl _ _).alloc (Nat.le_refl _) _).trans (Hb.out.mono (by simp))).alloc (by omega) _).trans (hb2.mono (by simp; omega))

end Go.Proofs.Ytfdmbjkofchhiaa
