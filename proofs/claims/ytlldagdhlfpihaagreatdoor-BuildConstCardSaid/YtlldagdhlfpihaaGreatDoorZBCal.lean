/- BCos, BCal: joined.  Walk of the coder's call. -/
import Derived.Test.YtlldagdhlfpihaaGreatDoorZBCod
section
set_option linter.unusedVariables false
set_option linter.unusedSimpArgs false
set_option linter.unusedSectionVars false
namespace Go.Proofs.YtlldagdhlfpihaaGreatDoor
open Go.RowKit

theorem CPost.next {base p : Nat} {h : CH} {xs ys zs : List S.Item} {lab lab' : Int} {w w1 w2 : World} {e e' : Ending} (h1 : CPost base p h xs ys lab w e w1) (h2 : CPost base p h (xs ++ ys) zs lab' w1 e' w2) : CPost base p h xs (ys ++ zs) lab' w e' w2 :=
  ⟨h2.1, by rw [← List.append_assoc]; exact h2.2.1, h1.2.2.trans h2.2.2⟩

theorem c_low16 (x : Int) (h0 : 0 ≤ x) (h1 : x ≤ 4294967295) : bits .and .i64 x 65535 = x % 65536 := by
  have h : (BitVec.ofInt 64 x &&& BitVec.ofInt 64 65535).toNat = (x % 65536).toNat := by
    rw [BitVec.toNat_and]
    have h1 : (BitVec.ofInt 64 65535).toNat = 2 ^ 16 - 1 := by decide
    rw [h1, Nat.and_two_pow_sub_one_eq_mod, BitVec.toNat_ofInt]
    omega
  show IntKind.i64.wrap ((BitVec.ofInt 64 x &&& BitVec.ofInt 64 65535).toNat : Int) = _
  rw [h, IntKind.wrap_i64]
  omega

structure HOk (h : CH) : Prop where
  fr0 : 0 ≤ h.fr
  fr1 : h.fr ≤ 1000
  l0 : 0 ≤ h.r.locals
  l1 : h.r.locals ≤ 200

section
variable {base p : Nat} {h : CH} {xs : List S.Item} {lab : Int} {w : World} (H : CAt base p h xs lab w) (hbw : base ≤ w.heap.size)
include H
theorem CAt.cell_fr : w.cell? ⟨p, 5, none⟩ = some (.int .i64 h.fr) := by
  obtain ⟨_, v, hk, _⟩ := H
  rw [Lib.cell_of_heap hk]; rfl
theorem CAt.cell_loc : w.cell? ⟨p, 2, none⟩ = some (.int .i64 h.r.locals) := by
  obtain ⟨_, v, hk, _⟩ := H
  rw [Lib.cell_of_heap hk]; rfl
theorem CAt.cell_bh : w.cell? ⟨p, 3, none⟩ = some (.bool h.r.behind) := by
  obtain ⟨_, v, hk, _⟩ := H
  rw [Lib.cell_of_heap hk]; rfl
theorem CAt.cell_lab : w.cell? ⟨p, 7, none⟩ = some (.int .i64 lab) := by
  obtain ⟨_, v, hk, _⟩ := H
  rw [Lib.cell_of_heap hk]; rfl
set_option maxRecDepth 100000 in
theorem c_saved (hO : HOk h) (k : Nat) (hk : k ≤ 1000000) : Calls Tryz.prog 185 #[.pointer (some ⟨p, 0, none⟩), .int .i64 (k : Int)] w fun e w' => e = .returned (.int .i64 (1 + h.r.locals + k)) ∧ w' = w := by
  have c2 := H.cell_loc
  obtain ⟨_, _, l0, l1⟩ := hO
  generalize h.r.locals = L at *
  clear H
  go_enter Tryz.func185, Tryz.ntmps185
  go_wp2_with fail
  go_ret
  exact ⟨rfl, rfl⟩
include hbw
set_option maxRecDepth 100000 in
set_option maxHeartbeats 1000000 in
theorem c_move (hl : xs.length ≤ 100000000) (d a : Int) : Calls Tryz.prog 117 #[.pointer (some ⟨p, 0, none⟩), .int .i64 d, .int .i64 a] w (CPost base p h xs [S.bMove d a] lab w) := by
  have Hc := Lib.hid (c_inst H hbw hl 15 d a 0 0)
  clear H
  go_enter Tryz.func117, Tryz.ntmps117
  go_wp2_with fail
  refine Hc.out.mono ?_
  rintro e w2 ⟨rfl, h1, h2⟩
  go_wp2_with fail
  go_end0
  exact ⟨rfl, h1, h2⟩
set_option maxRecDepth 100000 in
set_option maxHeartbeats 1000000 in
theorem c_load (hl : xs.length ≤ 100000000) (hO : HOk h) (d pl : Int) (hpl : -1000000000 ≤ pl ∧ pl ≤ 1000000000) : Calls Tryz.prog 170 #[.pointer (some ⟨p, 0, none⟩), .int .i64 d, .int .i64 pl] w (CPost base p h xs [S.bLoad h.fr d pl] lab w) := by
  have Hc := Lib.hid (c_inst H hbw hl 24 d 28 0 (pl - h.fr))
  have c5 := H.cell_fr
  obtain ⟨f0, f1, _, _⟩ := hO
  unfold S.bLoad
  obtain ⟨fr, hfr⟩ : ∃ fr, fr = h.fr := ⟨_, rfl⟩
  rw [← hfr] at c5 Hc f0 f1 ⊢
  clear H hfr
  go_enter Tryz.func170, Tryz.ntmps170
  go_wp2_with fail
  refine Hc.out.mono ?_
  rintro e w2 ⟨rfl, h1, h2⟩
  go_wp2_with fail
  go_end0
  exact ⟨rfl, h1, h2⟩
set_option maxRecDepth 100000 in
set_option maxHeartbeats 1000000 in
theorem c_store (hl : xs.length ≤ 100000000) (hO : HOk h) (d pl : Int) (hpl : -1000000000 ≤ pl ∧ pl ≤ 1000000000) : Calls Tryz.prog 115 #[.pointer (some ⟨p, 0, none⟩), .int .i64 d, .int .i64 pl] w (CPost base p h xs [S.bStore h.fr d pl] lab w) := by
  have Hc := Lib.hid (c_inst H hbw hl 25 0 28 d (pl - h.fr))
  have c5 := H.cell_fr
  obtain ⟨f0, f1, _, _⟩ := hO
  unfold S.bStore
  obtain ⟨fr, hfr⟩ : ∃ fr, fr = h.fr := ⟨_, rfl⟩
  rw [← hfr] at c5 Hc f0 f1 ⊢
  clear H hfr
  go_enter Tryz.func115, Tryz.ntmps115
  go_wp2_with fail
  refine Hc.out.mono ?_
  rintro e w2 ⟨rfl, h1, h2⟩
  go_wp2_with fail
  go_end0
  exact ⟨rfl, h1, h2⟩
set_option maxRecDepth 100000 in
set_option maxHeartbeats 1000000 in
theorem c_pop (hl : xs.length ≤ 100000000) (hO : HOk h) : Calls Tryz.prog 118 #[.pointer (some ⟨p, 0, none⟩)] w (CPost base p h xs [S.bPop h.fr] lab w) := by
  have Hc := Lib.hid (c_inst H hbw hl 15 28 28 0 (-h.fr))
  have c5 := H.cell_fr
  obtain ⟨f0, f1, _, _⟩ := hO
  unfold S.bPop
  obtain ⟨fr, hfr⟩ : ∃ fr, fr = h.fr := ⟨_, rfl⟩
  rw [← hfr] at c5 Hc f0 f1 ⊢
  clear H hfr
  go_enter Tryz.func118, Tryz.ntmps118
  go_wp2_with fail
  refine Hc.out.mono ?_
  rintro e w2 ⟨rfl, h1, h2⟩
  go_wp2_with fail
  go_end0
  exact ⟨rfl, h1, h2⟩
set_option maxRecDepth 100000 in
set_option maxHeartbeats 1000000 in
theorem c_constant (hl : xs.length + 1 ≤ 100000000) (d n : Int) (hn : -2147483648 ≤ n ∧ n ≤ 4294967295) : Calls Tryz.prog 169 #[.pointer (some ⟨p, 0, none⟩), .int .i64 d, .int .i64 n] w (CPost base p h xs (S.bConst d n) lab w) := by
  have Hi := Lib.hid (fun (ys : List S.Item) (W : World) (hy : ys.length ≤ 1) (hc : CAt base p h (xs ++ ys) lab W) (hk : CK base w W) (op d a b imm : Int) => c_inst hc (by have := hk.size; omega) (by simp only [List.length_append]; omega) op d a b imm)
  have Hc0 := Lib.hid H
  clear H
  unfold S.bConst
  by_cases h1 : -32768 ≤ n
  · by_cases h2 : n < 32768
    · rw [if_pos ⟨h1, h2⟩]
      go_enter Tryz.func169, Tryz.ntmps169
      go_wp2_with fail
      refine (Hi.out [] w (by simp) (by simpa using Hc0.out) (CK.refl _ _) 15 d 0 0 n).mono ?_
      rintro e w2 ⟨rfl, h3, h4⟩
      go_wp2_with fail
      go_end0
      exact ⟨rfl, by simpa using h3, h4⟩
    · rw [if_neg (by omega)]
      go_enter Tryz.func169, Tryz.ntmps169
      go_wp2_with fail
      refine (Hi.out [] w (by simp) (by simpa using Hc0.out) (CK.refl _ _) 23 d 0 0 (n / 65536)).mono ?_
      rintro e w2 ⟨rfl, h3, h4⟩
      go_wp2_with fail
      rw [c_low16 n (by omega) (by omega)]
      refine (Hi.out [S.bI 23 d 0 0 (n / 65536)] w2 (by simp) (by simpa using h3) h4 17 d d 0 (n % 65536)).mono ?_
      rintro e w3 ⟨rfl, h5, h6⟩
      go_wp2_with fail
      go_end0
      have e1 : n % 4294967296 = n := by omega
      exact ⟨rfl, by rw [e1]; simpa using h5, h4.trans h6⟩
  · rw [if_neg (by omega)]
    go_enter Tryz.func169, Tryz.ntmps169
    go_wp2_with fail
    refine (Hi.out [] w (by simp) (by simpa using Hc0.out) (CK.refl _ _) 23 d 0 0 (n % 4294967296 / 65536)).mono ?_
    rintro e w2 ⟨rfl, h3, h4⟩
    go_wp2_with fail
    rw [c_low16 (n % 4294967296) (by omega) (by omega)]
    refine (Hi.out [S.bI 23 d 0 0 (n % 4294967296 / 65536)] w2 (by simp) (by simpa using h3) h4 17 d d 0 (n % 4294967296 % 65536)).mono ?_
    rintro e w3 ⟨rfl, h5, h6⟩
    go_wp2_with fail
    go_end0
    exact ⟨rfl, by simpa using h5, h4.trans h6⟩
set_option maxRecDepth 100000 in
set_option maxHeartbeats 1000000 in
theorem c_back (hl : xs.length + 6 ≤ 100000000) (hO : HOk h) : Calls Tryz.prog 76 #[.pointer (some ⟨p, 0, none⟩)] w (CPost base p h xs (S.bBack h.fr h.r.behind) lab w) := by
  have Hi := Lib.hid (fun (ys : List S.Item) (W : World) (hy : ys.length ≤ 6) (hc : CAt base p h (xs ++ ys) lab W) (hk : CK base w W) (op d a b imm : Int) => c_inst hc (by have := hk.size; omega) (by simp only [List.length_append]; omega) op d a b imm)
  have Hp := Lib.hid (c_pop H hbw (by omega) hO)
  have Hb := Lib.hid (fun (ys : List S.Item) (W : World) (hc : CAt base p h (xs ++ ys) lab W) => hc.cell_bh)
  clear H
  obtain ⟨ys, hys⟩ : ∃ ys, ys = S.bBack h.fr h.r.behind := ⟨_, rfl⟩
  rw [← hys]
  unfold S.bBack at hys
  have Hys := Lib.hid hys
  clear hys
  obtain ⟨bh, hbh⟩ : ∃ bh, bh = h.r.behind := ⟨_, rfl⟩
  rw [← hbh] at Hb Hys
  clear hbh
  go_enter Tryz.func76, Tryz.ntmps76
  go_wp2_with fail
  refine Hp.out.mono ?_
  rintro e w2 ⟨rfl, h1, k1⟩
  go_wp2_with fail
  refine (Hi.out [S.bPop h.fr] w2 (by simp) h1 k1 24 31 28 0 0).mono ?_
  rintro e w3 ⟨rfl, h2, k2⟩
  rw [List.append_assoc] at h2
  have k3 := k1.trans k2
  have c3 := Hb.out _ _ h2
  cases bh with
  | false =>
    go_wp2_with fail
    refine (Hi.out _ w3 (by simp) h2 k3 33 0 31 0 0).mono ?_
    rintro e w4 ⟨rfl, h4, k4⟩
    go_wp2_with fail
    go_end0
    exact ⟨rfl, by rw [Hys.out]; simpa using h4, k3.trans k4⟩
  | true =>
    go_wp2_with fail
    refine (Hi.out _ w3 (by simp) h2 k3 24 25 31 0 0).mono ?_
    rintro e w4 ⟨rfl, h4, k4⟩
    rw [List.append_assoc] at h4
    go_wp2_with fail
    refine (Hi.out _ w4 (by simp) h4 (k3.trans k4) 1 31 31 25 0).mono ?_
    rintro e w5 ⟨rfl, h5, k5⟩
    rw [List.append_assoc] at h5
    go_wp2_with fail
    refine (Hi.out _ w5 (by simp) h5 ((k3.trans k4).trans k5) 33 0 31 0 1).mono ?_
    rintro e w6 ⟨rfl, h6, k6⟩
    go_wp2_with fail
    go_end0
    exact ⟨rfl, by rw [Hys.out]; simpa using h6, ((k3.trans k4).trans k5).trans k6⟩
set_option maxRecDepth 100000 in
set_option maxHeartbeats 1000000 in
theorem c_fresh (h3 : 3 ≤ base) (hL : LVE w) (hlab : 0 ≤ lab ∧ lab ≤ 1000000000) : Calls Tryz.prog 167 #[.pointer (some ⟨p, 0, none⟩)] w fun e w' => e = .returned (.string (S.bLab (lab + 1))) ∧ CAt base p h xs (lab + 1) w' ∧ CK base w w' := by
  have Hbl := Lib.hid (show S.bLab (lab + 1) = ⟨(46 :: S.itoa (lab + 1)).toArray⟩ from rfl)
  have Hlen := Lib.hid (itoa_len (lab + 1))
  have Hit := Lib.hid (fun W (hL : LVE W) => e_Itoa (lab + 1) ⟨by omega, by omega⟩ W hL)
  generalize S.bLab (lab + 1) = R at *
  generalize S.itoa (lab + 1) = I at *
  have c7 := H.cell_lab
  have hlt := H.lt
  obtain ⟨hlow, v, hk, ho⟩ := H
  have f7 : w.frozen? ⟨p, 7, none⟩ = false := Lib.frozen_of_heap hk 7
  have hne := own_neB ho hk (by decide)
  have hS : (w.setCell ⟨p, 7, none⟩ (.int .i64 (lab + 1))).heap[p]? = some (.cells (cCells h v (lab + 1)) 143) := by
    rw [setCell_eq_setRow _ _ _ _ _ _ _ hk]
    exact setRow_heap _ _ _ _ _ _ hk
  have hb7 : Below base w (w.setCell ⟨p, 7, none⟩ (.int .i64 (lab + 1))) := (Below.refl _ _).setCell (p := ⟨p, 7, none⟩) hlow _
  have ho7 := ho.kept (w' := w.setCell ⟨p, 7, none⟩ (.int .i64 (lab + 1))) (row := some p) ⟨rfl, rfl, rfl, by simp [World.setCell], fun k _ hk => Below.heap_setCell _ _ _ _ (fun e => hk (by simp [e]))⟩ (Or.inr hne)
  have hat : CAt base p h xs (lab + 1) (w.setCell ⟨p, 7, none⟩ (.int .i64 (lab + 1))) := ⟨hlow, v, hS, ho7⟩
  have hck : CK base w (w.setCell ⟨p, 7, none⟩ (.int .i64 (lab + 1))) := ⟨hb7, fun k r T o hr h1 h2 => by
    have hkp : k ≠ p := by
      rintro rfl
      rw [hk] at hr
      simp only [Option.some.injEq, Obj.cells.injEq] at hr
      exact h2 hr.2.1.symm
    rw [Below.heap_setCell _ _ _ _ hkp]
    exact hr⟩
  have Hat := Lib.hid hat
  have Hck := Lib.hid hck
  have HL := Lib.hid (hL.keep hb7 h3)
  have g7 : (w.setCell ⟨p, 7, none⟩ (.int .i64 (lab + 1))).cell? ⟨p, 7, none⟩ = some (.int .i64 (lab + 1)) := by rw [Lib.cell_of_heap hS]; rfl
  have hsz : base ≤ (w.setCell ⟨p, 7, none⟩ (.int .i64 (lab + 1))).heap.size := by have := hck.size; omega
  clear hat hck hb7 ho7 hS hk ho hL
  go_enter Tryz.func167, Tryz.ntmps167
  go_upto_region 2 with fail
  generalize w.setCell ⟨p, 7, none⟩ (.int .i64 (lab + 1)) = w2 at *
  clear c7 f7
  go_wp2_with fail
  refine (Hit.out w2 HL.out).mono ?_
  rintro e w3 ⟨rfl, hb3⟩
  have Hr := Lib.hid (str_app [46] I)
  have Hat3 := Lib.hid (Hat.out.keep hb3)
  have Hck3 := Lib.hid (Hck.out.trans (CK.of hb3 hsz))
  have hlen := Hlen.out
  clear HL hb3
  go_wp2_with fail
  go_ret
  exact ⟨ret_str (by rw [Hbl.out]; exact Hr.out), Hat3.out, Hck3.out⟩
end

end Go.Proofs.YtlldagdhlfpihaaGreatDoor
end

section
set_option linter.unusedVariables false
set_option linter.unusedSimpArgs false
set_option linter.unusedSectionVars false
namespace Go.Proofs.YtlldagdhlfpihaaGreatDoor
open Go.RowKit

theorem bStores_len (fr L : Int) : ∀ k, (S.bStores fr L k).length = k
  | 0 => rfl
  | k + 1 => by rw [S.bStores, List.length_append, bStores_len fr L k]; rfl
theorem bLoads_len (fr L : Int) : ∀ k, (S.bLoads fr L k).length = k
  | 0 => rfl
  | k + 1 => by rw [S.bLoads, List.length_append, bLoads_len fr L k]; rfl
theorem bArgs_len (at_ : Nat) : ∀ k, (S.bArgs at_ k).length = k
  | 0 => rfl
  | k + 1 => by rw [S.bArgs, List.length_append, bArgs_len at_ k]; rfl

set_option maxRecDepth 100000 in
set_option maxHeartbeats 2000000 in
theorem c_call {base p : Nat} {h : CH} {xs : List S.Item} {lab : Int} {w : World} (H : CAt base p h xs lab w) (hbw : base ≤ w.heap.size) (hO : HOk h) (op n : Int) (nm : ByteArray) (A : Option Addr) (N c at_ : Nat) (hN : N ≤ 1000000) (hat : at_ ≤ 1000000)
    (hl : xs.length + (S.bCall h.fr h.r.locals nm N at_).length ≤ 100000000) :
    Calls Tryz.prog 171 #[.pointer (some ⟨p, 0, none⟩), .agg #[.int .i64 op, .int .i64 n, .string nm, .slice A N c], .int .i64 (at_ : Int)] w (CPost base p h xs (S.bCall h.fr h.r.locals nm N at_) lab w) := by
  have hbX : Below w.heap.size w (w.alloc (.cells #[.int .i64 op, .int .i64 n, .string nm, .slice A N c] 24)) := (Below.refl _ _).alloc (Nat.le_refl _) _
  have hrX := heap_alloc_new w (.cells #[.int .i64 op, .int .i64 n, .string nm, .slice A N c] 24)
  have hzX : w.heap.size < (w.alloc (.cells #[.int .i64 op, .int .i64 n, .string nm, .slice A N c] 24)).heap.size := by simp
  have HbX := Lib.hid (CK.of hbX hbw)
  have H2 := H.keep hbX
  obtain ⟨ys, hys⟩ : ∃ ys, ys = S.bCall h.fr h.r.locals nm N at_ := ⟨_, rfl⟩
  rw [← hys] at hl ⊢
  unfold S.bCall at hys
  have hlen : ys.length = at_ + N + 1 + at_ + 1 := by
    rw [hys]
    simp only [List.length_append, bStores_len, bLoads_len, bArgs_len, List.length_cons, List.length_nil]
  rw [hlen] at hl
  have Hys := Lib.hid hys
  have hL0 := hO.l0
  have hL1 := hO.l1
  have HO := Lib.hid hO
  have Hsav := Lib.hid (fun (zs : List S.Item) (W : World) (hc : CAt base p h zs lab W) (k : Nat) (hk : k ≤ 1000000) => c_saved hc hO k hk)
  have Hsto := Lib.hid (fun (zs : List S.Item) (W : World) (hc : CAt base p h zs lab W) (hb : base ≤ W.heap.size) (hz : zs.length ≤ 100000000) (d pl : Int) (hpl : -1000000000 ≤ pl ∧ pl ≤ 1000000000) => c_store hc hb hz hO d pl hpl)
  have Hloa := Lib.hid (fun (zs : List S.Item) (W : World) (hc : CAt base p h zs lab W) (hb : base ≤ W.heap.size) (hz : zs.length ≤ 100000000) (d pl : Int) (hpl : -1000000000 ≤ pl ∧ pl ≤ 1000000000) => c_load hc hb hz hO d pl hpl)
  obtain ⟨L, hL⟩ : ∃ L, L = h.r.locals := ⟨_, rfl⟩
  rw [← hL] at hL0 hL1 Hys Hsav
  have HL := Lib.hid hL
  clear hys H hO hL hlen
  go_enter Tryz.func171, Tryz.ntmps171
  go_upto_region 1 with fail
  have HRX := Lib.hid hrX
  have H2' := Lib.hid H2
  clear hbX hrX H2
  generalize w.alloc (.cells #[.int .i64 op, .int .i64 n, .string nm, .slice A N c] 24) = w2 at *
  go_wp2_with fail
  go_loopw [10] (fun v10 wr => ∃ k : Nat, k ≤ at_ ∧ v10 = .int .i64 k ∧ Hid (CAt base p h (xs ++ S.bStores h.fr L k) lab wr) ∧ Hid (CK base w2 wr)) (fun v10 _ => at_ - (intOf v10).toNat)
  case atStart => exact ⟨0, by omega, rfl, Lib.hid (by simpa [S.bStores] using H2'.out), Lib.hid (CK.refl _ _)⟩
  case round =>
    obtain ⟨k, hk, rfl, HC, HK⟩ := hrel
    obtain ⟨wo, hwo⟩ : ∃ wo, wo = wr := ⟨_, rfl⟩
    subst hwo
    by_cases hlt : k < at_
    · have Hs1 := Lib.hid (Hsav.out _ _ HC.out k (by omega))
      have Hs2 := Lib.hid (Hsto.out _ _ HC.out (by have := HK.out.size; have := HbX.out.size; omega) (by rw [List.length_append, bStores_len]; omega) (11 + (k : Int)) (1 + L + (k : Int)) (by omega))
      go_wp2_with fail
      refine Hs1.out.mono ?_
      rintro e w3 ⟨rfl, rfl⟩
      go_wp2_with fail
      refine Hs2.out.mono ?_
      rintro e w4 ⟨rfl, h3, h4⟩
      go_wp2_with fail
      go_roundw
      case rel => exact ⟨k + 1, by omega, by go_num, Lib.hid (by rw [S.bStores, ← List.append_assoc]; exact h3), Lib.hid (HK.out.trans h4)⟩
      case measure => simp [intOf]; omega
    · have hkN : at_ = k := by omega
      subst hkN
      have Hrow := Lib.hid (HK.out.keep w.heap.size _ _ _ HRX.out (by decide) (by decide))
      have q3 : wo.cell? ⟨w.heap.size, 3, none⟩ = some (.slice A N c) := by rw [Lib.cell_of_heap Hrow.out]; rfl
      go_wp2_with fail
      have HstL := Lib.hid (bStores_len h.fr L at_)
      generalize S.bStores h.fr L at_ = st at *
      go_loopw [24] (fun v24 wr => ∃ k : Nat, k ≤ N ∧ v24 = .int .i64 k ∧ Hid (CAt base p h (xs ++ st ++ S.bArgs at_ k) lab wr) ∧ Hid (CK base wo wr)) (fun v24 _ => N - (intOf v24).toNat)
      case atStart => exact ⟨0, by omega, rfl, Lib.hid (by simpa [S.bArgs] using HC.out), Lib.hid (CK.refl _ _)⟩
      case round =>
        obtain ⟨k, hk, rfl, HC2, HK2⟩ := hrel
        obtain ⟨wo2, hwo2⟩ : ∃ wo2, wo2 = wr := ⟨_, rfl⟩
        subst hwo2
        have hs2 : base ≤ wo2.heap.size := by have := HK2.out.size; have := HK.out.size; have := HbX.out.size; omega
        by_cases hlt : k < N
        · have Hs1 := Lib.hid (c_move HC2.out hs2 (by rw [List.length_append, List.length_append, bArgs_len, HstL.out]; omega) (4 + (k : Int)) (11 + (at_ : Int) + (k : Int)))
          go_wp2_with fail
          refine Hs1.out.mono ?_
          rintro e w4 ⟨rfl, h3, h4⟩
          go_wp2_with fail
          go_roundw
          case rel => exact ⟨k + 1, by omega, by go_num, Lib.hid (by rw [S.bArgs, ← List.append_assoc]; exact h3), Lib.hid (HK2.out.trans h4)⟩
          case measure => simp [intOf]; omega
        · have hkN : N = k := by omega
          subst hkN
          have Hrow2 := Lib.hid (HK2.out.keep w.heap.size _ _ _ Hrow.out (by decide) (by decide))
          have q2 : wo2.cell? ⟨w.heap.size, 2, none⟩ = some (.string nm) := by rw [Lib.cell_of_heap Hrow2.out]; rfl
          have Hj := Lib.hid (c_jump HC2.out hs2 (by rw [List.length_append, List.length_append, bArgs_len, HstL.out]; omega) 31 nm)
          go_wp2_with fail
          refine Hj.out.mono ?_
          rintro e w5 ⟨rfl, h5, h6⟩
          go_wp2_with fail
          have HarL := Lib.hid (bArgs_len at_ N)
          generalize S.bArgs at_ N = ar at *
          go_loopw [41] (fun v41 wr => ∃ k : Nat, k ≤ at_ ∧ v41 = .int .i64 k ∧ Hid (CAt base p h (xs ++ st ++ ar ++ [S.bJ 31 nm] ++ S.bLoads h.fr L k) lab wr) ∧ Hid (CK base w5 wr)) (fun v41 _ => at_ - (intOf v41).toNat)
          case atStart => exact ⟨0, by omega, rfl, Lib.hid (by simpa [S.bLoads] using h5), Lib.hid (CK.refl _ _)⟩
          case round =>
            obtain ⟨k, hk, rfl, HC3, HK3⟩ := hrel
            obtain ⟨wo3, hwo3⟩ : ∃ wo3, wo3 = wr := ⟨_, rfl⟩
            subst hwo3
            have hs3 : base ≤ wo3.heap.size := by have := HK3.out.size; have := h6.size; omega
            have hl3 : (xs ++ st ++ ar ++ [S.bJ 31 nm] ++ S.bLoads h.fr L k).length = xs.length + at_ + N + 1 + k := by simp only [List.length_append, HarL.out, HstL.out, bLoads_len, List.length_cons, List.length_nil]
            by_cases hlt : k < at_
            · have Hs1 := Lib.hid (Hsav.out _ _ HC3.out k (by omega))
              have Hs2 := Lib.hid (Hloa.out _ _ HC3.out hs3 (by rw [hl3]; omega) (11 + (k : Int)) (1 + L + (k : Int)) (by omega))
              clear hl3
              go_wp2_with fail
              refine Hs1.out.mono ?_
              rintro e w3 ⟨rfl, rfl⟩
              go_wp2_with fail
              refine Hs2.out.mono ?_
              rintro e w4 ⟨rfl, h3, h4⟩
              go_wp2_with fail
              go_roundw
              case rel => exact ⟨k + 1, by omega, by go_num, Lib.hid (by rw [S.bLoads, ← List.append_assoc]; exact h3), Lib.hid (HK3.out.trans h4)⟩
              case measure => simp [intOf]; omega
            · have hkN : at_ = k := by omega
              subst hkN
              have Hs1 := Lib.hid (c_move HC3.out hs3 (by rw [hl3]; omega) (11 + (at_ : Int)) 4)
              clear hl3
              go_wp2_with fail
              refine Hs1.out.mono ?_
              rintro e w4 ⟨rfl, h3, h4⟩
              go_wp2_with fail
              go_end0
              refine ⟨rfl, ?_, HbX.out.trans (HK.out.trans (HK2.out.trans (h6.trans (HK3.out.trans h4))))⟩
              rw [Hys.out]
              simpa [List.append_assoc] using h3

end Go.Proofs.YtlldagdhlfpihaaGreatDoor
end
