/- isa's text of an instruction: walks of isa.Text and what it calls. -/
import Derived.Test.YtjhchgbeglhoaaaDoorIBld
import Derived.Test.YtjhchgbeglhoaaaDoorITxt
import Derived.Test.YtjhchgbeglhoaaaDoorIName
import Derived.Test.YtjhchgbeglhoaaaDoorIDig
import Derived.Test.YtjhchgbeglhoaaaDoorIsaB
import Derived.Test.YtjhchgbeglhoaaaDoorShelf
import Derived.Lib.AppendIntMem
set_option linter.unusedVariables false
set_option linter.unusedSimpArgs false
set_option linter.unusedSectionVars false
namespace Go.Proofs.YtjhchgbeglhoaaaDoor
open Go.RowKit

/-- What the listed variables hold, as far as it is asked. -/
structure LV (w : World) : Prop where
  tab : Lib.TabIs Tryd.prog w "internal/strconv.uint64pow10" .u64 Lib.pow10Tab
  maxLen : ∃ m, w.cell? ⟨3, 0, none⟩ = some (.int .i64 m)
  syn : ∃ ev, w.cell? ⟨0, 0, none⟩ = some ev ∧ (ev = .nilIface ∨ ∃ te pe, ev = .iface te pe)
  rng : ∃ ev, w.cell? ⟨1, 0, none⟩ = some ev ∧ (ev = .nilIface ∨ ∃ te pe, ev = .iface te pe)
  size : 8 ≤ w.heap.size
theorem pow_named : Tryd.prog.globalNamed "internal/strconv.uint64pow10" = some 2 := by kernel_rfl
theorem LV.keep {w w' : World} (h : LV w) {B : Nat} (hb : Below B w w') (hB : 8 ≤ B) : LV w' := by
  refine ⟨?_, ?_, ?_, ?_, Nat.le_trans h.size hb.size⟩
  · have h1 := h.tab
    unfold Lib.TabIs World.var? at h1 ⊢
    rw [pow_named] at h1 ⊢
    simp only [Option.bind_some] at h1 ⊢
    rw [hb.block 2 (by omega)]
    exact h1
  · obtain ⟨m, hm⟩ := h.maxLen
    exact ⟨m, (hb.cell (p := ⟨3, 0, none⟩) (Nat.lt_of_lt_of_le (by decide) hB)).trans hm⟩
  · obtain ⟨m, hm, h2⟩ := h.syn
    exact ⟨m, (hb.cell (p := ⟨0, 0, none⟩) (Nat.lt_of_lt_of_le (by decide) hB)).trans hm, h2⟩
  · obtain ⟨m, hm, h2⟩ := h.rng
    exact ⟨m, (hb.cell (p := ⟨1, 0, none⟩) (Nat.lt_of_lt_of_le (by decide) hB)).trans hm, h2⟩
theorem LV.on {w w' : World} (h : LV w) (hb : Below w.heap.size w w') : LV w' := h.keep hb h.size

theorem isa_Itoa (n : Int) (h : -1000000000000000000 < n ∧ n < 1000000000000000000) (w : World) (hL : LV w) :
    Calls Tryd.prog 42 #[.int .i64 n] w fun e w' => e = .returned (.string ⟨(S.itoa n).toArray⟩) ∧ Below w.heap.size w w' := by
  refine (Tryd.strconv_Itoa n (by omega) (by omega) w hL.tab).mono ?_
  rintro e w' ⟨rfl, k, os, rfl⟩
  refine ⟨by rw [itoa_eq (by omega)], ?_⟩
  exact Lib.below_grow _ _ (Nat.le_refl _) _ _

/-- A builder that the call has made. -/
abbrev Bld (B b : Nat) (bs : List UInt8) (w : World) : Prop := Lib.IsBuilder 63 5 B b (Lib.byteCells bs) w
theorem builderAt_keep {T e : TypeId} {B b : Nat} {p : Value} {bs : List Value} {w w' : World} (h : Lib.BuilderAt T e B b p bs w) (hb : Below w.heap.size w w') : Lib.BuilderAt T e B b p bs w' := by
  have hlt := h.lt
  obtain ⟨hB, v, hbk, hown, hne⟩ := h
  exact ⟨hB, v, (hb.block b hlt).trans hbk, ownsRow_below hown hb, hne⟩
theorem bld_keep {B b : Nat} {bs : List UInt8} {w w' : World} (h : Bld B b bs w) (hb : Below w.heap.size w w') : Bld B b bs w' := by
  rcases h with h | h
  · exact .inl (builderAt_keep h hb)
  · exact .inr (builderAt_keep h hb)
theorem strCells_app (bs l : List UInt8) : Lib.byteCells bs ++ Lib.strCells ⟨l.toArray⟩ = Lib.byteCells (bs ++ l) := by
  rw [Lib.strCells_toArray]
  simp [Lib.byteCells]

theorem str_app2' (m b : List UInt8) : (⟨#[32]⟩ : ByteArray) ++ ⟨m.toArray⟩ ++ ⟨b.toArray⟩ = ⟨(32 :: (m ++ b)).toArray⟩ := by
  rw [show (⟨#[32]⟩ : ByteArray) = ⟨([32] : List UInt8).toArray⟩ from rfl, str_app, str_app]
  rfl
theorem bld_put (B b : Nat) (bs l : List UInt8) (w : World) (h : Bld B b bs w) (hlen : bs.length + l.length ≤ 1000000) (hBw : B ≤ w.heap.size) :
    Calls Tryd.prog 40 #[.pointer (some ⟨b, 0, none⟩), .string ⟨l.toArray⟩] w fun e w' => (∃ k, e = .returned (.tuple #[.int .i64 k, .nilIface])) ∧ (Bld B b (bs ++ l) w' ∧ Below B w w') := by
  refine (bld_write B b (Lib.byteCells bs) ⟨l.toArray⟩ w h (by rw [Lib.byteCells_length]; show bs.length + l.length ≤ _; omega) hBw).mono ?_
  rintro e w' ⟨rfl, h2, h3⟩
  rw [strCells_app] at h2
  exact ⟨⟨_, rfl⟩, .inr h2, h3⟩

theorem bld_new (w : World) : Bld w.heap.size w.heap.size [] (w.alloc (.cells #[.pointer none, .slice none 0 0] 63)) :=
  .inl ⟨Nat.le_refl _, .slice none 0 0, heap_alloc_new w _, ⟨rfl, .inl ⟨rfl, rfl⟩⟩, by simp [Value.ownBlock]⟩
set_option maxRecDepth 100000 in
set_option maxHeartbeats 1000000 in
theorem isa_part (is : Bool) (B b : Nat) (bs mark : List UInt8) (n : Int) (w : World) (hL : LV w) (hn : -1000000000000000000 < n ∧ n < 1000000000000000000) (hm : mark.length ≤ 1) (h : Bld B b bs w) (hlen : bs.length ≤ 10000) (hBw : B ≤ w.heap.size) (hB : 8 ≤ B) :
    Calls Tryd.prog 41 #[.bool is, .string ⟨mark.toArray⟩, .int .i64 n, .pointer (some ⟨b, 0, none⟩)] w fun e w' => e = .returned (.tuple #[]) ∧ Bld B b (bs ++ S.part is mark n) w' ∧ Below B w w' := by
  cases is with
  | false =>
    go_enter Tryd.func41, Tryd.ntmps41
    go_wp2_with fail
    go_end0
    exact ⟨rfl, by simpa [S.part] using h, Below.refl _ _⟩
  | true =>
    have hil := itoa_len n
    go_enter Tryd.func41, Tryd.ntmps41
    go_wp2_with fail
    refine (isa_Itoa n hn w hL).mono ?_
    rintro e w1 ⟨rfl, hb⟩
    have Hs := Lib.hid (str_app2' mark (S.itoa n))
    have Hp := Lib.hid (show S.part true mark n = 32 :: (mark ++ S.itoa n) from rfl)
    have Hd := Lib.hid (bld_keep h hb)
    generalize S.itoa n = L at *
    go_wp2_with fail
    rw [Hs.out]
    refine (bld_put B b bs (32 :: (mark ++ L)) w1 Hd.out (by simp; omega) (Nat.le_trans hBw hb.size)).mono ?_
    rintro e w2 ⟨⟨k, rfl⟩, h2, hb2⟩
    go_wp2_with fail
    go_end0
    exact ⟨rfl, by rw [Hp.out]; exact h2, (hb.mono hBw).trans hb2⟩

theorem str_val' {a b : ByteArray} (h : a = b) : Value.string a = .string b := by rw [h]

set_option maxRecDepth 100000 in
set_option maxHeartbeats 2000000 in
theorem isa_Text (op d a b imm : Int) (w : World) (hL : LV w) : Calls Tryd.prog 21 #[.agg #[.int .i64 op, .int .i64 d, .int .i64 a, .int .i64 b, .int .i64 imm]] w fun e w' => e = .returned (.string ⟨(S.text ⟨op, d, a, b, imm⟩).toArray⟩) ∧ Below w.heap.size w w' := by
  have HL := Lib.hid hL
  have g8 := hL.size
  clear hL
  go_enter Tryd.func21, Tryd.ntmps21
  go_upto_region 1 with fail
  obtain ⟨x1, x2, x3⟩ := one_allocN w #[.int .i64 op, .int .i64 d, .int .i64 a, .int .i64 b, .int .i64 imm] 27
  generalize w.alloc (.cells #[.int .i64 op, .int .i64 d, .int .i64 a, .int .i64 b, .int .i64 imm] 27) = wb at *
  have q0 := (cell_of_row wb w.heap.size 0 _ _ (0, 0) x1).trans (show (#[Value.int .i64 op, .int .i64 d, .int .i64 a, .int .i64 b, .int .i64 imm])[0]? = some (.int .i64 op) from rfl)
  have q1 := (cell_of_row wb w.heap.size 1 _ _ (0, 0) x1).trans (show (#[Value.int .i64 op, .int .i64 d, .int .i64 a, .int .i64 b, .int .i64 imm])[1]? = some (.int .i64 d) from rfl)
  have q2 := (cell_of_row wb w.heap.size 2 _ _ (0, 0) x1).trans (show (#[Value.int .i64 op, .int .i64 d, .int .i64 a, .int .i64 b, .int .i64 imm])[2]? = some (.int .i64 a) from rfl)
  have q3 := (cell_of_row wb w.heap.size 3 _ _ (0, 0) x1).trans (show (#[Value.int .i64 op, .int .i64 d, .int .i64 a, .int .i64 b, .int .i64 imm])[3]? = some (.int .i64 b) from rfl)
  have q4 := (cell_of_row wb w.heap.size 4 _ _ (0, 0) x1).trans (show (#[Value.int .i64 op, .int .i64 d, .int .i64 a, .int .i64 b, .int .i64 imm])[4]? = some (.int .i64 imm) from rfl)
  have gb : w.heap.size < wb.heap.size := by omega
  clear x1 x3
  cases hg : S.good ⟨op, d, a, b, imm⟩ with
  | false =>
    have Ht := Lib.hid (show S.text ⟨op, d, a, b, imm⟩ = [63] by unfold S.text; rw [if_neg (by rw [hg]; simp)])
    have hc : S.chk ⟨op, d, a, b, imm⟩ = 11 := by unfold S.chk; rw [if_neg (by rw [hg]; simp)]
    clear hg
    go_wp2_with fail
    refine (isa_Check op d a b imm wb).mono ?_
    rintro e w2 ⟨rfl, hb⟩
    rw [hc]
    go_wp2_with fail
    go_ret
    exact ⟨by rw [Ht.out]; rfl, x2.trans (hb.mono (Nat.le_of_lt gb))⟩
  | true =>
    have Ht := Lib.hid (show S.text ⟨op, d, a, b, imm⟩ = S.nameL op ++ (S.part (S.hasD (S.form op)) [114] d ++ (S.part (S.hasA (S.form op)) [114] a ++ (S.part (S.hasB (S.form op)) [114] b ++ S.part (decide (0 < S.bitsOf (S.form op))) [] imm))) by unfold S.text; rw [if_pos hg])
    have hc : S.chk ⟨op, d, a, b, imm⟩ = 0 := by unfold S.chk; rw [if_pos hg]
    obtain ⟨o1, o2, d1, d2, a1, a2, b1, b2, hw⟩ := good_ways hg
    have hib : -1048576 ≤ imm ∧ imm ≤ 1048575 := by rcases hw with hw | hw | hw | hw | hw | hw | hw <;> omega
    have hnl : (S.nameL op).length ≤ 5 := by
      have := name_short ⟨op.toNat, by omega⟩
      have e : ((op.toNat : Nat) : Int) = op := by omega
      simpa [e] using this
    have pd := part_short (S.hasD (S.form op)) [114] (n := d) (by simp) (by omega)
    have pa := part_short (S.hasA (S.form op)) [114] (n := a) (by simp) (by omega)
    have pb := part_short (S.hasB (S.form op)) [114] (n := b) (by simp) (by omega)
    clear hg hw
    go_wp2_with fail
    refine (isa_Check op d a b imm wb).mono ?_
    rintro e w2 ⟨rfl, hb⟩
    rw [hc]
    clear hc
    have r0 := (hb.cell (p := ⟨w.heap.size, 0, none⟩) gb).trans q0
    have r1 := (hb.cell (p := ⟨w.heap.size, 1, none⟩) gb).trans q1
    have r2 := (hb.cell (p := ⟨w.heap.size, 2, none⟩) gb).trans q2
    have r3 := (hb.cell (p := ⟨w.heap.size, 3, none⟩) gb).trans q3
    have r4 := (hb.cell (p := ⟨w.heap.size, 4, none⟩) gb).trans q4
    have g2 : w.heap.size < w2.heap.size := Nat.lt_of_lt_of_le gb hb.size
    have H0 := Lib.hid (x2.trans (hb.mono (Nat.le_of_lt gb)))
    clear x2 hb q0 q1 q2 q3 q4 gb
    go_wp2_with fail
    refine (isa_Form op w2).mono ?_
    rintro e wx ⟨rfl, rfl⟩
    obtain ⟨f, hf⟩ : ∃ f, f = S.form op := ⟨_, rfl⟩
    rw [← hf] at Ht pd pa pb ⊢
    clear hf
    go_wp2_with fail
    refine (isa_has f w2).mono ?_
    rintro e wx ⟨rfl, rfl⟩
    generalize S.hasD f = D at *
    generalize S.hasA f = A at *
    generalize S.hasB f = E at *
    generalize S.bitsOf f = K at *
    go_upto_region 5 with fail
    obtain ⟨y1, y2, y3⟩ := one_allocN w2 #[.pointer none, .slice none 0 0] 63
    have hbl := bld_new w2
    generalize w2.alloc (.cells #[.pointer none, .slice none 0 0] 63) = w3 at *
    have s0 := (y2.cell (p := ⟨w.heap.size, 0, none⟩) g2).trans r0
    have s1 := (y2.cell (p := ⟨w.heap.size, 1, none⟩) g2).trans r1
    have s2 := (y2.cell (p := ⟨w.heap.size, 2, none⟩) g2).trans r2
    have s3 := (y2.cell (p := ⟨w.heap.size, 3, none⟩) g2).trans r3
    have s4 := (y2.cell (p := ⟨w.heap.size, 4, none⟩) g2).trans r4
    have HN := Lib.hid (H0.out.trans (y2.mono (Nat.le_of_lt g2)))
    have HLN := Lib.hid (HL.out.keep HN.out g8)
    have h3 : w2.heap.size ≤ w3.heap.size := by omega
    have k3 : w.heap.size < w3.heap.size := by omega
    clear y1 y2 y3 r0 r1 r2 r3 r4 H0
    go_wp2_with fail
    refine (isa_Name op w3).mono ?_
    rintro e w4 ⟨rfl, hb4⟩
    have t0 := (hb4.cell (p := ⟨w.heap.size, 0, none⟩) k3).trans s0
    have t1 := (hb4.cell (p := ⟨w.heap.size, 1, none⟩) k3).trans s1
    have t2 := (hb4.cell (p := ⟨w.heap.size, 2, none⟩) k3).trans s2
    have t3 := (hb4.cell (p := ⟨w.heap.size, 3, none⟩) k3).trans s3
    have t4 := (hb4.cell (p := ⟨w.heap.size, 4, none⟩) k3).trans s4
    clear s0 s1 s2 s3 s4
    have H4 := Lib.hid (HN.out.trans (hb4.mono (Nat.le_of_lt k3)))
    have hbl4 := bld_keep hbl hb4
    have h4 : w2.heap.size ≤ w4.heap.size := Nat.le_trans h3 hb4.size
    clear hbl hb4 h3
    obtain ⟨T0, hT0⟩ : ∃ T0, T0 = S.nameL op := ⟨_, rfl⟩
    rw [← hT0] at hnl Ht ⊢
    clear hT0
    go_wp2_with fail
    refine (bld_put w2.heap.size w2.heap.size [] T0 w4 hbl4 (by simp; omega) h4).mono ?_
    rintro e w5 ⟨⟨k0, rfl⟩, hbl5, hb5⟩
    rw [List.nil_append] at hbl5
    have u0 := (hb5.cell (p := ⟨w.heap.size, 0, none⟩) g2).trans t0
    have u1 := (hb5.cell (p := ⟨w.heap.size, 1, none⟩) g2).trans t1
    have u2 := (hb5.cell (p := ⟨w.heap.size, 2, none⟩) g2).trans t2
    have u3 := (hb5.cell (p := ⟨w.heap.size, 3, none⟩) g2).trans t3
    have u4 := (hb5.cell (p := ⟨w.heap.size, 4, none⟩) g2).trans t4
    clear t0 t1 t2 t3 t4
    have H5 := Lib.hid (H4.out.trans (hb5.mono (Nat.le_of_lt g2)))
    have h5 : w2.heap.size ≤ w5.heap.size := Nat.le_trans h4 hb5.size
    clear hbl4 hb5 h4 H4
    have HL5 := Lib.hid (HL.out.keep H5.out g8)
    have hmf : ∀ (fn : Fn) (first cap : Array Value) (w : World), (Instr.makeFunc fn first cap).run Tryd.prog w = .ok (.func fn first cap) w := fun _ _ _ _ => rfl
    have G2 := Lib.hid g2
    have g2' : 8 ≤ w2.heap.size := by omega
    clear HN HLN k3
    go_wp2_with fail
    refine (isa_part D w2.heap.size w2.heap.size T0 [114] d w5 HL5.out (by omega) (by simp) hbl5 (by omega) h5 g2').mono ?_
    rintro e w6 ⟨rfl, hbl6, hb6⟩
    have v00 := (hb6.cell (p := ⟨w.heap.size, 0, none⟩) G2.out).trans u0
    have v01 := (hb6.cell (p := ⟨w.heap.size, 1, none⟩) G2.out).trans u1
    have v02 := (hb6.cell (p := ⟨w.heap.size, 2, none⟩) G2.out).trans u2
    have v03 := (hb6.cell (p := ⟨w.heap.size, 3, none⟩) G2.out).trans u3
    have v04 := (hb6.cell (p := ⟨w.heap.size, 4, none⟩) G2.out).trans u4
    clear u0 u1 u2 u3 u4
    have H6 := Lib.hid (H5.out.trans (hb6.mono (Nat.le_of_lt G2.out)))
    have h6 : w2.heap.size ≤ w6.heap.size := Nat.le_trans h5 hb6.size
    have HL6 := Lib.hid (HL.out.keep H6.out g8)
    clear hbl5 h5 hb6
    obtain ⟨T1, hT1⟩ : ∃ T, T = T0 ++ S.part D [114] d := ⟨_, rfl⟩
    have hnl0 : T1.length ≤ 15 := by rw [hT1, List.length_append]; omega
    rw [← hT1] at hbl6
    rw [← List.append_assoc, ← hT1] at Ht
    clear hT1
    go_wp2_with fail
    refine (isa_part A w2.heap.size w2.heap.size T1 [114] a w6 HL6.out (by omega) (by simp) hbl6 (by omega) h6 g2').mono ?_
    rintro e w7 ⟨rfl, hbl7, hb7⟩
    have v10 := (hb7.cell (p := ⟨w.heap.size, 0, none⟩) G2.out).trans v00
    have v11 := (hb7.cell (p := ⟨w.heap.size, 1, none⟩) G2.out).trans v01
    have v12 := (hb7.cell (p := ⟨w.heap.size, 2, none⟩) G2.out).trans v02
    have v13 := (hb7.cell (p := ⟨w.heap.size, 3, none⟩) G2.out).trans v03
    have v14 := (hb7.cell (p := ⟨w.heap.size, 4, none⟩) G2.out).trans v04
    clear v00 v01 v02 v03 v04
    have H7 := Lib.hid (H6.out.trans (hb7.mono (Nat.le_of_lt G2.out)))
    have h7 : w2.heap.size ≤ w7.heap.size := Nat.le_trans h6 hb7.size
    have HL7 := Lib.hid (HL.out.keep H7.out g8)
    clear hbl6 h6 hb7
    obtain ⟨T2, hT2⟩ : ∃ T, T = T1 ++ S.part A [114] a := ⟨_, rfl⟩
    have hnl1 : T2.length ≤ 25 := by rw [hT2, List.length_append]; omega
    rw [← hT2] at hbl7
    rw [← List.append_assoc, ← hT2] at Ht
    clear hT2
    go_wp2_with fail
    refine (isa_part E w2.heap.size w2.heap.size T2 [114] b w7 HL7.out (by omega) (by simp) hbl7 (by omega) h7 g2').mono ?_
    rintro e w8 ⟨rfl, hbl8, hb8⟩
    have v20 := (hb8.cell (p := ⟨w.heap.size, 0, none⟩) G2.out).trans v10
    have v21 := (hb8.cell (p := ⟨w.heap.size, 1, none⟩) G2.out).trans v11
    have v22 := (hb8.cell (p := ⟨w.heap.size, 2, none⟩) G2.out).trans v12
    have v23 := (hb8.cell (p := ⟨w.heap.size, 3, none⟩) G2.out).trans v13
    have v24 := (hb8.cell (p := ⟨w.heap.size, 4, none⟩) G2.out).trans v14
    clear v10 v11 v12 v13 v14
    have H8 := Lib.hid (H7.out.trans (hb8.mono (Nat.le_of_lt G2.out)))
    have h8 : w2.heap.size ≤ w8.heap.size := Nat.le_trans h7 hb8.size
    have HL8 := Lib.hid (HL.out.keep H8.out g8)
    clear hbl7 h7 hb8
    obtain ⟨T3, hT3⟩ : ∃ T, T = T2 ++ S.part E [114] b := ⟨_, rfl⟩
    have hnl2 : T3.length ≤ 35 := by rw [hT3, List.length_append]; omega
    rw [← hT3] at hbl8
    rw [← List.append_assoc, ← hT3] at Ht
    clear hT3
    go_wp2_with fail
    refine (isa_part (decide (0 < K)) w2.heap.size w2.heap.size T3 [] imm w8 HL8.out (by omega) (by simp) hbl8 (by omega) h8 g2').mono ?_
    rintro e w9 ⟨rfl, hbl9, hb9⟩
    have H9 := Lib.hid (H8.out.trans (hb9.mono (Nat.le_of_lt G2.out)))
    have h9 : w2.heap.size ≤ w9.heap.size := Nat.le_trans h8 hb9.size
    have HL9 := Lib.hid (HL.out.keep H9.out g8)
    clear hbl8 h8 hb9
    go_wp2_with fail
    refine (Tryd.Builder_String_any w2.heap.size w2.heap.size _ _ hbl9 h9).mono ?_
    rintro e w10 ⟨rfl, hb10⟩
    go_wp2_with fail
    go_ret
    exact ⟨by rw [Ht.out]; rfl, H9.out.trans (hb10.mono (Nat.le_of_lt G2.out))⟩

end Go.Proofs.YtjhchgbeglhoaaaDoor
