/- Walk of layer 25's law BuildConst. -/
import Derived.Test.YtlldagdhlfpihaaGreatDoorZQk
import Derived.Test.YtlldagdhlfpihaaGreatDoorZAsmA
import Derived.Test.YtlldagdhlfpihaaGreatDoorZMachT
set_option linter.unusedVariables false
set_option linter.unusedSimpArgs false
set_option linter.unusedSectionVars false
namespace Go.Proofs.YtlldagdhlfpihaaGreatDoor
open Go.RowKit

/-- The routine of the examples in a box, its body a new slice of one statement. -/
def BoxAt (W : World) (b : Nat) (A : Option Addr) (c : Nat) : Prop := W.heap[b]? = some (.cells #[.string S.kDouble, .int .i64 1, .int .i64 1, .bool false, .slice A 1 c] 34 (0, 0))

theorem set_alloc {W : World} {b : Nat} {o : Obj} {v : Value} (h : b < W.heap.size) : (W.alloc o).setCell ⟨b, 4, none⟩ v = (W.setCell ⟨b, 4, none⟩ v).alloc o := by
  unfold World.setCell World.alloc
  simp only
  congr 1
  apply Array.ext
  · simp
  · intro i h1 h2
    by_cases c : b = i
    · subst c
      rw [Array.getElem_modify, if_pos rfl, Array.getElem_push_lt h, Array.getElem_push_lt (by simpa using h), Array.getElem_modify, if_pos rfl]
    · rw [Array.getElem_modify, if_neg c]
      simp only [Array.size_modify, Array.size_push] at h1
      by_cases ci : i < W.heap.size
      · rw [Array.getElem_push_lt ci, Array.getElem_push_lt (by simpa using ci), Array.getElem_modify, if_neg c]
      · have e : i = W.heap.size := by omega
        subst e
        simp [Array.getElem_push]
theorem box_body {W : World} {b : Nat} {A0 : Option Addr} {c0 : Nat} {s : S.BS} {us : Array Value} (hbx : BoxAt W b A0 c0) (hs : SValP W (Rng (b + 1) W.heap.size) s (.agg us)) (hsz : szSs [s] ≤ 1000000) :
    BoxAt ((W.setCell ⟨b, 4, none⟩ (.slice (some ⟨W.heap.size, 0, none⟩) 1 1)).alloc (.cells us 29 (0, 0))) b (some ⟨W.heap.size, 0, none⟩) 1 ∧
      RAt2 ((W.setCell ⟨b, 4, none⟩ (.slice (some ⟨W.heap.size, 0, none⟩) 1 1)).alloc (.cells us 29 (0, 0))) ((W.setCell ⟨b, 4, none⟩ (.slice (some ⟨W.heap.size, 0, none⟩) 1 1)).alloc (.cells us 29 (0, 0))).heap.size (S.rD false [s]) (some ⟨W.heap.size, 0, none⟩) ∧
      Below b W ((W.setCell ⟨b, 4, none⟩ (.slice (some ⟨W.heap.size, 0, none⟩) 1 1)).alloc (.cells us 29 (0, 0))) := by
  rw [← set_alloc (Array.getElem?_eq_some_iff.1 hbx).1]
  obtain ⟨A1, c1, A2, c2, A3, c3, A4, c4, e, h1, h2, h3, h4, h5, h6, h7, h8, h9⟩ := hs
  cases e
  have hlt : b < W.heap.size := (Array.getElem?_eq_some_iff.1 hbx).1
  have hb1 : Below b W (W.alloc (.cells #[.int .i64 s.op, .int .i64 s.n, .string s.name, .slice A1 s.exprs.length c1, .slice A2 s.regs.length c2, .slice A3 s.body.length c3, .slice A4 s.els.length c4] 29 (0, 0))) := (Below.refl _ _).alloc (Nat.le_of_lt hlt) _
  have hold : ∀ k, k < W.heap.size → (W.alloc (.cells #[.int .i64 s.op, .int .i64 s.n, .string s.name, .slice A1 s.exprs.length c1, .slice A2 s.regs.length c2, .slice A3 s.body.length c3, .slice A4 s.els.length c4] 29 (0, 0))).heap[k]? = W.heap[k]? := fun k hk => heap_alloc_old W _ hk
  have hnew := heap_alloc_new W (.cells #[.int .i64 s.op, .int .i64 s.n, .string s.name, .slice A1 s.exprs.length c1, .slice A2 s.regs.length c2, .slice A3 s.body.length c3, .slice A4 s.els.length c4] 29 (0, 0))
  have hsize : (W.alloc (.cells #[.int .i64 s.op, .int .i64 s.n, .string s.name, .slice A1 s.exprs.length c1, .slice A2 s.regs.length c2, .slice A3 s.body.length c3, .slice A4 s.els.length c4] 29 (0, 0))).heap.size = W.heap.size + 1 := by show (W.heap.push _).size = _; simp
  generalize W.alloc (.cells #[.int .i64 s.op, .int .i64 s.n, .string s.name, .slice A1 s.exprs.length c1, .slice A2 s.regs.length c2, .slice A3 s.body.length c3, .slice A4 s.els.length c4] 29 (0, 0)) = W1 at *
  have hset : ∀ k, k ≠ b → (W1.setCell ⟨b, 4, none⟩ (.slice (some ⟨W.heap.size, 0, none⟩) 1 1)).heap[k]? = W1.heap[k]? := fun k hk => Below.heap_setCell _ _ _ _ hk
  have hsz2 : (W1.setCell ⟨b, 4, none⟩ (.slice (some ⟨W.heap.size, 0, none⟩) 1 1)).heap.size = W.heap.size + 1 := by simp [World.setCell, hsize]
  have hkeep : KeepP (Rng (b + 1) W.heap.size) W (W1.setCell ⟨b, 4, none⟩ (.slice (some ⟨W.heap.size, 0, none⟩) 1 1)) := fun k o x hk hx => by
    obtain ⟨k1, k2⟩ := hk
    rw [← hx]
    exact cell_congr ((hset k (by omega)).trans (hold k k2))
  have hlt2 : ∀ k, Rng (b + 1) W.heap.size k → k < W.heap.size + 1 := fun k hk => by have := hk.2; omega
  have hn := (hset W.heap.size (by omega)).trans hnew
  refine ⟨?_, ⟨by show S.kDouble.size ≤ maxLen; decide, .inr ⟨W.heap.size, 0, rfl, by rw [hsz2]; omega, ?_⟩, by show szSs [s] ≤ _; omega⟩, hb1.setCell (p := ⟨b, 4, none⟩) (Nat.le_refl _) _⟩
  · unfold BoxAt at hbx ⊢
    have hq := (hold b hlt).trans hbx
    have hlt1 := (Array.getElem?_eq_some_iff.1 hq).1
    have hv := (Array.getElem?_eq_some_iff.1 hq).2
    unfold World.setCell
    simp only
    rw [Array.getElem?_modify, if_pos rfl, hq]
    rfl
  · rw [hsz2]
    show SKids _ _ _ _ [s]
    obtain ⟨op, n, nm, es, rs, bd, el⟩ := s
    rw [SKids, SKids, SCell]
    exact ⟨⟨by rw [Lib.cell_of_heap hn]; rfl, by rw [Lib.cell_of_heap hn]; rfl, by rw [Lib.cell_of_heap hn]; rfl, h1, h2, h3, h4, h5, ⟨A1, c1, by rw [Lib.cell_of_heap hn]; rfl, (h6.keep hkeep).to hlt2⟩, ⟨A2, c2, by rw [Lib.cell_of_heap hn]; rfl, (h7.keep hkeep).to hlt2⟩,
      ⟨A3, c3, by rw [Lib.cell_of_heap hn]; rfl, (h8.keep hkeep).to hlt2⟩, ⟨A4, c4, by rw [Lib.cell_of_heap hn]; rfl, (h9.keep hkeep).to hlt2⟩⟩, trivial⟩

theorem l_back' (lo : Nat) (x : S.BE) (v : Value) (w : World) (hlo : lo ≤ w.heap.size) (hx : EValP w (Rng lo w.heap.size) x v) : Calls Tryz.prog 18 #[v] w fun e w' =>
    ∃ A1 c1 A2 c2 A3 c3 A4 c4, e = .returned (.agg #[.int .i64 5, .int .i64 0, .string ⟨#[]⟩, .slice A1 1 c1, .slice A2 1 c2, .slice A3 0 c3, .slice A4 0 c4]) ∧
      SValP w' (Rng lo w'.heap.size) (S.sBk x) (.agg #[.int .i64 5, .int .i64 0, .string ⟨#[]⟩, .slice A1 1 c1, .slice A2 1 c2, .slice A3 0 c3, .slice A4 0 c4]) ∧ Below w.heap.size w w' := by
  refine (l_back lo x v w hlo hx).mono ?_
  rintro e w' ⟨u, rfl, hs, hb⟩
  obtain ⟨A1, c1, A2, c2, A3, c3, A4, c4, rfl, -⟩ := id hs
  exact ⟨A1, c1, A2, c2, A3, c3, A4, c4, rfl, hs, hb⟩
/-- What a routine that gives a number comes back with. -/
theorem answer_num {n : Int} (hn : -2147483648 ≤ n ∧ n ≤ 4294967295) (A : Option Addr) (c : Nat) (w : World) (hR : RAt2 w w.heap.size (S.rNum n) A) (hL : LVE w) :
    Calls Tryz.prog 13 #[.agg #[.string S.kDouble, .int .i64 1, .int .i64 1, .bool false, .slice A 1 c], .int .u32 0] w fun e w' => e = .returned (.tuple #[.int .u32 (n % 4294967296), .bool true]) ∧ Below w.heap.size w w' :=
  l_answer (S.rNum n) A c 0 (n % 4294967296) w hR (ans_num hn) hL (by decide) fun I i hI hs st _ => ⟨16, _, by decide, real_num hI hn hs st, fun ret o k h => h⟩
theorem answer_bin {op a b : Int} (ho : 1 ≤ op ∧ op ≤ 14) (ha : -2147483648 ≤ a ∧ a ≤ 4294967295) (hb : -2147483648 ≤ b ∧ b ≤ 4294967295) (hz : b % 4294967296 = 0 → op ≠ 5 ∧ op ≠ 6) (A : Option Addr) (c : Nat) (w : World) (hR : RAt2 w w.heap.size (S.rBin op a b) A) (hL : LVE w) :
    Calls Tryz.prog 13 #[.agg #[.string S.kDouble, .int .i64 1, .int .i64 1, .bool false, .slice A 1 c], .int .u32 0] w fun e w' => e = .returned (.tuple #[.int .u32 (S.alu op (a % 4294967296) (b % 4294967296)), .bool true]) ∧ Below w.heap.size w w' :=
  l_answer (S.rBin op a b) A c 0 _ w hR (ans_bin ho ha hb) hL (by decide) fun I i hI hs st _ => ⟨16, _, by decide, real_bin hI ho ha hb hz hs st, fun ret o k h => h⟩

/-- A machine with one instruction that reckons with two numbers. -/
def oneM (n u v : Int) : S.Mach := ((newM [S.enc ⟨n, 3, 1, 2, 0⟩] (Int.toNat 10) []).setV 1 u).setV 2 v
theorem oneM_step {n u v : Int} (hn : 1 ≤ n ∧ n ≤ 14) (hz : v = 0 → n ≠ 5 ∧ n ≠ 6) : (oneM n u v).step.regV 3 = S.alu n u v := by
  have hg : S.good ⟨n, 3, 1, 2, 0⟩ = true := good_1 hn (by decide) (by decide) (by decide)
  have e : oneM n u v = ⟨[0, u, v] ++ List.replicate 29 0, S.enc ⟨n, 3, 1, 2, 0⟩ :: List.replicate 9 0, 0, [], [], 0, 0, 0, 0⟩ := by
    rfl
  have hw : S.wordOf ⟨n, 3, 1, 2, 0⟩ = S.enc ⟨n, 3, 1, 2, 0⟩ := by unfold S.wordOf; rw [if_pos hg]
  have hact : (oneM n u v).act ⟨n, 3, 1, 2, 0⟩ = ((oneM n u v).put 3 (S.alu n u v), S.u32m ((oneM n u v).place + 1), 0) := by
    have r1 : (oneM n u v).rd 1 = u := by rw [e]; rfl
    have r2 : (oneM n u v).rd 2 = v := by rw [e]; rfl
    unfold S.Mach.act
    simp only [r1, r2]
    rw [if_pos hn.2, if_neg (fun q => by have := hz q.1; omega)]
  rw [step_inst (x := ⟨n, 3, 1, 2, 0⟩) (by rw [e]) (by rw [e]; show (0 : Int) < _; simp) (by rw [e, hw]; rfl) hg (by rw [hact]), hact]
  unfold S.Mach.regV S.Mach.put
  rw [if_pos (by decide), if_neg (by decide), e]
  rfl

set_option maxRecDepth 100000 in
set_option maxHeartbeats 4000000 in
theorem law_BuildConst (a b op : Int) (W : World) (hL : LVE W) (ha : -2147483648 ≤ a ∧ a ≤ 2147483647) (hb : -2147483648 ≤ b ∧ b ≤ 2147483647) (hop : 0 ≤ op ∧ op ≤ 255) :
    Calls Tryz.prog 4 #[.int .i32 a, .int .i32 b, .int .u8 op] W fun e W' => e = .returned (.bool true) ∧ Below W.heap.size W W' := by
  have HAw := Lib.hid (fun w (h : LVE w) => law_of_true awake25 w h)
  have Ha := Lib.hid ha
  have Hb := Lib.hid hb
  have Hop := Lib.hid hop
  have HL := Lib.hid hL
  have wa : wrap64 a = a := by
    unfold wrap64
    omega
  clear ha hb hop hL
  go_enter Tryz.func4, Tryz.ntmps4
  go_wp2_with fail
  refine (l_double W).mono ?_
  rintro e w1 ⟨A0, c0, rfl, -, hb0⟩
  have e1 : rVal dbl A0 c0 = .agg #[.string S.kDouble, .int .i64 1, .int .i64 1, .bool false, .slice A0 1 c0] := rfl
  rw [e1]
  clear e1
  have hB1 : BoxAt (w1.alloc (.cells #[.string S.kDouble, .int .i64 1, .int .i64 1, .bool false, .slice A0 1 c0] 34)) w1.heap.size A0 c0 := heap_alloc_new w1 _
  have hbw : Below W.heap.size W (w1.alloc (.cells #[.string S.kDouble, .int .i64 1, .int .i64 1, .bool false, .slice A0 1 c0] 34)) := hb0.alloc hb0.size _
  have hlb := hb0.size
  obtain ⟨bx, hbx⟩ : ∃ bx, bx = w1.heap.size := ⟨_, rfl⟩
  rw [← hbx] at hB1 hlb
  go_upto_region 2 with fail
  rw [← hbx]
  generalize w1.alloc (.cells #[.string S.kDouble, .int .i64 1, .int .i64 1, .bool false, .slice A0 1 c0] 34) = w2 at *
  have HB2 := Lib.hid hB1
  have HW2 := Lib.hid hbw
  clear hb0 hB1 hbw hbx w1
  go_wp2_with fail
  refine (l_constant (bx + 1) a w2).mono ?_
  rintro e w3 ⟨v3, rfl, hv3, hb3⟩
  go_wp2_with fail
  have hlt2 : bx < w2.heap.size := (Array.getElem?_eq_some_iff.1 HB2.out).1
  have hz3 := hb3.size
  refine (l_back' (bx + 1) (S.eC a) v3 w3 (by omega) hv3).mono ?_
  rintro e w4 ⟨A1, c1, A2, c2, A3, c3, A4, c4, rfl, hs4, hb4⟩
  have hbx4 : BoxAt w4 bx A0 c0 := (hb4.block _ (by omega)).trans ((hb3.block _ hlt2).trans HB2.out)
  obtain ⟨q1, q2, q3⟩ := box_body hbx4 hs4 (by simp [szSs, szS, S.sBk, S.sRet, szEs, szE, S.eC])
  have q4 : Below W.heap.size W w4 := HW2.out.trans ((hb3.trans (hb4.mono hz3)).mono HW2.out.size)
  have hlt4 := hb4.size
  have d4 : w4.cell? ⟨bx, 4, none⟩ = some (.slice A0 1 c0) := by rw [Lib.cell_of_heap hbx4]; rfl
  have f4 : w4.frozen? ⟨bx, 4, none⟩ = false := Lib.frozen_of_heap hbx4 4
  have hlt5 : bx < w4.heap.size := by omega
  go_upto_region 3 with fail
  generalize (w4.setCell ⟨bx, 4, none⟩ (.slice (some ⟨w4.heap.size, 0, none⟩) 1 1)).alloc (.cells #[.int .i64 5, .int .i64 0, .string ⟨#[]⟩, .slice A1 1 c1, .slice A2 1 c2, .slice A3 0 c3, .slice A4 0 c4] 29) = w5 at *
  have HB5 := Lib.hid q1
  have HR5 := Lib.hid q2
  have HW5 := Lib.hid (q4.trans (q3.mono hlb))
  generalize (some ⟨w4.heap.size, 0, none⟩ : Option Addr) = A5 at *
  clear hv3 hb3 hb4 hs4 hbx4 q1 q2 q3 q4 d4 f4 hlt5 hlt4 hz3 hlt2 HB2 HW2
  have k0 : w5.cell? ⟨bx, 0, none⟩ = some (.string S.kDouble) := by rw [Lib.cell_of_heap HB5.out]; rfl
  have k1 : w5.cell? ⟨bx, 1, none⟩ = some (.int .i64 1) := by rw [Lib.cell_of_heap HB5.out]; rfl
  have k2 : w5.cell? ⟨bx, 2, none⟩ = some (.int .i64 1) := by rw [Lib.cell_of_heap HB5.out]; rfl
  have k3 : w5.cell? ⟨bx, 3, none⟩ = some (.bool false) := by rw [Lib.cell_of_heap HB5.out]; rfl
  have k4 : w5.cell? ⟨bx, 4, none⟩ = some (.slice A5 1 1) := by rw [Lib.cell_of_heap HB5.out]; rfl
  go_wp2_with fail
  refine (answer_num (n := a) ⟨by have := Ha.out; omega, by have := Ha.out; omega⟩ A5 1 w5 HR5.out (HL.out.keep HW5.out (by exact HL.out.size))).mono ?_
  rintro e w6 ⟨rfl, hb6⟩
  have HB6 := Lib.hid ((hb6.block bx (Array.getElem?_eq_some_iff.1 HB5.out).1).trans HB5.out)
  have HW6 := Lib.hid (HW5.out.trans (hb6.mono HW5.out.size))
  have wb : wrap64 (b % 4294967296) = b % 4294967296 := by
    unfold wrap64
    omega
  have hlt6 : bx < w6.heap.size := (Array.getElem?_eq_some_iff.1 HB6.out).1
  clear hb6 k0 k1 k2 k3 k4 HB5 HR5 HW5 wa
  go_wp2_with fail
  refine (l_constant (bx + 1) (b % 4294967296) w6).mono ?_
  rintro e w7 ⟨v7, rfl, hv7, hb7⟩
  go_wp2_with fail
  have hz7 := hb7.size
  refine (l_back' (bx + 1) (S.eC (b % 4294967296)) v7 w7 (by omega) hv7).mono ?_
  rintro e w8 ⟨A1', c1', A2', c2', A3', c3', A4', c4', rfl, hs8, hb8⟩
  have hbx8 : BoxAt w8 bx A5 1 := (hb8.block _ (by omega)).trans ((hb7.block _ hlt6).trans HB6.out)
  obtain ⟨q1, q2, q3⟩ := box_body hbx8 hs8 (by simp [szSs, szS, S.sBk, S.sRet, szEs, szE, S.eC])
  have q4 : Below W.heap.size W w8 := HW6.out.trans ((hb7.trans (hb8.mono hz7)).mono HW6.out.size)
  have hlt8 := hb8.size
  have d4 : w8.cell? ⟨bx, 4, none⟩ = some (.slice A5 1 1) := by rw [Lib.cell_of_heap hbx8]; rfl
  have f4 : w8.frozen? ⟨bx, 4, none⟩ = false := Lib.frozen_of_heap hbx8 4
  have hlt9 : bx < w8.heap.size := by omega
  go_upto_region 5 with fail
  generalize (w8.setCell ⟨bx, 4, none⟩ (.slice (some ⟨w8.heap.size, 0, none⟩) 1 1)).alloc (.cells #[.int .i64 5, .int .i64 0, .string ⟨#[]⟩, .slice A1' 1 c1', .slice A2' 1 c2', .slice A3' 0 c3', .slice A4' 0 c4'] 29) = w9 at *
  have HB9 := Lib.hid q1
  have HR9 := Lib.hid q2
  have HW9 := Lib.hid (q4.trans (q3.mono hlb))
  generalize (some ⟨w8.heap.size, 0, none⟩ : Option Addr) = A9 at *
  clear hv7 hb7 hb8 hs8 hbx8 q1 q2 q3 q4 d4 f4 hlt9 hlt8 hz7 hlt6 HB6 HW6 wb
  have k0 : w9.cell? ⟨bx, 0, none⟩ = some (.string S.kDouble) := by rw [Lib.cell_of_heap HB9.out]; rfl
  have k1 : w9.cell? ⟨bx, 1, none⟩ = some (.int .i64 1) := by rw [Lib.cell_of_heap HB9.out]; rfl
  have k2 : w9.cell? ⟨bx, 2, none⟩ = some (.int .i64 1) := by rw [Lib.cell_of_heap HB9.out]; rfl
  have k3 : w9.cell? ⟨bx, 3, none⟩ = some (.bool false) := by rw [Lib.cell_of_heap HB9.out]; rfl
  have k4 : w9.cell? ⟨bx, 4, none⟩ = some (.slice A9 1 1) := by rw [Lib.cell_of_heap HB9.out]; rfl
  go_wp2_with fail
  have hans := answer_num (n := b % 4294967296) ⟨by omega, by omega⟩ A9 1 w9 HR9.out (HL.out.keep HW9.out (by exact HL.out.size))
  rw [Int.emod_emod_of_dvd b (Int.dvd_refl 4294967296)] at hans
  have Hans := Lib.hid hans
  clear hans
  refine Hans.out.mono ?_
  rintro e w10 ⟨rfl, hb10⟩
  have HB10 := Lib.hid ((hb10.block bx (Array.getElem?_eq_some_iff.1 HB9.out).1).trans HB9.out)
  have HW10 := Lib.hid (HW9.out.trans (hb10.mono HW9.out.size))
  have hltz : bx < w10.heap.size := (Array.getElem?_eq_some_iff.1 HB10.out).1
  clear hb10 k0 k1 k2 k3 k4 HB9 HR9 HW9 Hans
  go_upto_region 9 with fail
  obtain ⟨n, hn⟩ : ∃ n, n = wrap64 (1 + (wrap64 op).tmod 14) := ⟨_, rfl⟩
  have hn1 : 1 ≤ n ∧ n ≤ 14 := by
    have h1 := Hop.out
    have h2 := Int.emod_nonneg op (show (14 : Int) ≠ 0 by decide)
    have h3 := Int.emod_lt_of_pos op (show (0 : Int) < 14 by decide)
    have h4 : wrap64 op = op := by
      unfold wrap64
      omega
    rw [hn, h4, Int.tmod_eq_emod_of_nonneg h1.1]
    unfold wrap64
    omega
  rw [← hn]
  clear hn
  have Hn1 := Lib.hid hn1
  clear hn1
  go_cut [74] (fun v74 wc => w10 = wc ∧ v74 = .bool (decide ((n = 5 ∨ n = 6) ∧ b = 0)))
  case first =>
    by_cases h0 : b = 0
    · have e0 : (b == 0) = true := by simpa using h0
      by_cases h5 : n = 5
      · have e5 : (n == 5) = true := by simpa using h5
        go_wp2_with fail
        go_meet
        exact ⟨rfl, by simp [h5, h0]⟩
      · have e5 : (n == 5) = false := by simpa using h5
        by_cases h6 : n = 6
        · have e6 : (n == 6) = true := by simpa using h6
          go_wp2_with fail
          go_meet
          exact ⟨rfl, by simp [h6, h0]⟩
        · have e6 : (n == 6) = false := by simpa using h6
          go_wp2_with fail
          go_meet
          exact ⟨rfl, by simp [h5, h6]⟩
    · have e0 : (b == 0) = false := by simpa using h0
      by_cases h5 : n = 5
      · have e5 : (n == 5) = true := by simpa using h5
        go_wp2_with fail
        go_meet
        exact ⟨rfl, by simp [h0]⟩
      · have e5 : (n == 5) = false := by simpa using h5
        by_cases h6 : n = 6
        · have e6 : (n == 6) = true := by simpa using h6
          go_wp2_with fail
          go_meet
          exact ⟨rfl, by simp [h0]⟩
        · have e6 : (n == 6) = false := by simpa using h6
          go_wp2_with fail
          go_meet
          exact ⟨rfl, by simp [h0]⟩
  case rest =>
    obtain ⟨rfl, rfl⟩ := hcut
    by_cases hz : (n = 5 ∨ n = 6) ∧ b = 0
    · rw [decide_eq_true hz]
      go_wp2_with fail
      refine (HAw.out _ (HL.out.keep HW10.out (by exact HL.out.size))).mono ?_
      rintro e w11 ⟨rfl, hb11⟩
      go_wp2_with fail
      refine bodyPost_ret (v := .bool true) (results_tmp Tryz.results4 _ _ _) rfl ⟨rfl, HW10.out.trans (hb11.mono HW10.out.size)⟩
    · rw [decide_eq_false hz]
      have Hz := Lib.hid hz
      clear hz
      have wa : wrap64 a = a := by
        unfold wrap64
        have := Ha.out
        omega
      have wb : wrap64 b = b := by
        unfold wrap64
        have := Hb.out
        omega
      go_wp2_with fail
      refine (l_constant (bx + 1) a w10).mono ?_
      rintro e w11 ⟨v11, rfl, hv11, hb11⟩
      go_wp2_with fail
      refine (l_constant (bx + 1) b w11).mono ?_
      rintro e w12 ⟨v12, rfl, hv12, hb12⟩
      go_wp2_with fail
      have hz11 := hb11.size
      have hz12 := hb12.size
      have hv11' : EValP w12 (Rng (bx + 1) w12.heap.size) (S.eC a) v11 := (hv11.keep (fun k o x hk hx => (hb12.cell (p := ⟨k, o, none⟩) hk.2).trans hx)).more (fun k hk => ⟨hk.1, Nat.lt_of_lt_of_le hk.2 hz12⟩)
      refine (l_bin (bx + 1) n (S.eC a) (S.eC b) v11 v12 w12 (by omega) hv11' hv12).mono ?_
      rintro e w13 ⟨v13, rfl, hv13, hb13⟩
      have hz13 := hb13.size
      go_wp2_with fail
      refine (l_back' (bx + 1) (S.eB n (S.eC a) (S.eC b)) v13 w13 (by omega) hv13).mono ?_
      rintro e w14 ⟨A1'', c1'', A2'', c2'', A3'', c3'', A4'', c4'', rfl, hs14, hb14⟩
      have hbx14 : BoxAt w14 bx A9 1 := (hb14.block _ (by omega)).trans ((hb13.block _ (by omega)).trans ((hb12.block _ (by omega)).trans ((hb11.block _ hltz).trans HB10.out)))
      obtain ⟨q1, q2, q3⟩ := box_body hbx14 hs14 (by simp [szSs, szS, S.sBk, S.sRet, szEs, szE, S.eC, S.eB])
      have q4 : Below W.heap.size W w14 := HW10.out.trans (((hb11.trans (hb12.mono hz11)).trans ((hb13.mono (by omega)).trans (hb14.mono (by omega)))).mono HW10.out.size)
      have hlt14 := hb14.size
      have d4 : w14.cell? ⟨bx, 4, none⟩ = some (.slice A9 1 1) := by rw [Lib.cell_of_heap hbx14]; rfl
      have f4 : w14.frozen? ⟨bx, 4, none⟩ = false := Lib.frozen_of_heap hbx14 4
      have hlt15 : bx < w14.heap.size := by omega
      go_upto_region 12 with fail
      generalize (w14.setCell ⟨bx, 4, none⟩ (.slice (some ⟨w14.heap.size, 0, none⟩) 1 1)).alloc (.cells #[.int .i64 5, .int .i64 0, .string ⟨#[]⟩, .slice A1'' 1 c1'', .slice A2'' 1 c2'', .slice A3'' 0 c3'', .slice A4'' 0 c4''] 29) = w15 at *
      have HB15 := Lib.hid q1
      have HR15 := Lib.hid q2
      have HW15 := Lib.hid (q4.trans (q3.mono hlb))
      generalize (some ⟨w14.heap.size, 0, none⟩ : Option Addr) = A15 at *
      clear hv11 hv11' hv12 hv13 hb11 hb12 hb13 hb14 hs14 hbx14 q1 q2 q3 q4 d4 f4 hlt15 hlt14 hz11 hz12 hz13 hltz HB10 HW10 wa wb
      have k0 : w15.cell? ⟨bx, 0, none⟩ = some (.string S.kDouble) := by rw [Lib.cell_of_heap HB15.out]; rfl
      have k1 : w15.cell? ⟨bx, 1, none⟩ = some (.int .i64 1) := by rw [Lib.cell_of_heap HB15.out]; rfl
      have k2 : w15.cell? ⟨bx, 2, none⟩ = some (.int .i64 1) := by rw [Lib.cell_of_heap HB15.out]; rfl
      have k3 : w15.cell? ⟨bx, 3, none⟩ = some (.bool false) := by rw [Lib.cell_of_heap HB15.out]; rfl
      have k4 : w15.cell? ⟨bx, 4, none⟩ = some (.slice A15 1 1) := by rw [Lib.cell_of_heap HB15.out]; rfl
      go_wp2_with fail
      have hzz : b % 4294967296 = 0 → n ≠ 5 ∧ n ≠ 6 := fun h => by
        have := Hb.out
        have := Hz.out
        omega
      refine (answer_bin (op := n) (a := a) (b := b) Hn1.out ⟨by have := Ha.out; omega, by have := Ha.out; omega⟩ ⟨by have := Hb.out; omega, by have := Hb.out; omega⟩ hzz A15 1 w15 HR15.out (HL.out.keep HW15.out (by exact HL.out.size))).mono ?_
      rintro e w16 ⟨rfl, hb16⟩
      have HW16 := Lib.hid (HW15.out.trans (hb16.mono HW15.out.size))
      have Hone := Lib.hid (oneM_step (u := a % 4294967296) (v := b % 4294967296) Hn1.out hzz)
      clear hb16 k0 k1 k2 k3 k4 HB15 HR15 HW15 hzz
      obtain ⟨z, hzv⟩ : ∃ z, z = S.alu n (a % 4294967296) (b % 4294967296) := ⟨_, rfl⟩
      rw [← hzv] at Hone ⊢
      clear hzv
      go_wp2_with fail
      refine (isa_Encode n 3 1 2 0 w16 (good_1 Hn1.out (by decide) (by decide) (by decide))).mono ?_
      rintro e w17 ⟨rfl, hb17⟩
      have hws := enc_bd (good_1 (d := 3) (a := 1) (b := 2) Hn1.out (by decide) (by decide) (by decide))
      obtain ⟨ww, hww⟩ : ∃ ww, ww = S.enc ⟨n, 3, 1, 2, 0⟩ := ⟨_, rfl⟩
      rw [← hww] at hws ⊢
      have HW17 := Lib.hid (HW16.out.trans (hb17.mono HW16.out.size))
      have Hww := Lib.hid hww
      clear hb17 hww HW16
      have hb18 : Below w17.heap.size w17 (w17.alloc (.cells #[.int .u32 ww] 30)) := (Below.refl _ _).alloc (Nat.le_refl _) _
      have hr18 : Reads (w17.alloc (.cells #[.int .u32 ww] 30)) (w17.alloc (.cells #[.int .u32 ww] 30)).heap.size (some ⟨w17.heap.size, 0, none⟩) ([ww].map (Value.int .u32)) := fun _ =>
        ⟨w17.heap.size, 0, rfl, by show _ < (w17.heap.push _).size; simp, fun j u hj => by
          rw [Lib.cell_of_heap (heap_alloc_new w17 _), Nat.zero_add]
          simpa using hj⟩
      have HNew := Lib.hid (mach_New (some ⟨w17.heap.size, 0, none⟩) none 1 0 [ww] [] 10 _ hr18 (fun h => by simp at h) (by simp) (by simp) (fun x hx => by
        simp at hx
        subst hx
        exact hws) (fun x hx => by cases hx))
      have HW18 := Lib.hid (HW17.out.trans (hb18.mono HW17.out.size))
      clear hb18 hr18
      go_wp2_with fail
      generalize w17.alloc (.cells #[.int .u32 ww] 30) = w18 at *
      refine HNew.out.mono ?_
      rintro e w19 (⟨hno, -⟩ | ⟨-, p, vm, Ai, ci, rfl, hm, hb19, -⟩)
      · exact absurd (show sizeOk [ww].length 10 from ⟨by decide, by decide, by show ((1 : Nat) : Int) ≤ 10; decide⟩) hno
      have HM19 := Lib.hid hm
      have HW19 := Lib.hid (HW18.out.trans (hb19.mono HW18.out.size))
      have hlow := HM19.out.low
      clear hm hb19 HNew
      have ba : 0 ≤ a % 4294967296 ∧ a % 4294967296 ≤ 4294967295 := by omega
      have bb : 0 ≤ b % 4294967296 ∧ b % 4294967296 ≤ 4294967295 := by omega
      have Hba := Lib.hid ba
      have Hbb := Lib.hid bb
      clear ba bb
      go_wp2_with fail
      refine (mach_Set 1 (a % 4294967296) HM19.out Hba.out).mono ?_
      rintro e w20 ⟨rfl, hm20, ho20⟩
      have HM20 := Lib.hid hm20
      have Ho20 := Lib.hid ho20
      clear hm20 ho20
      go_wp2_with fail
      refine (mach_Set 2 (b % 4294967296) HM20.out Hbb.out).mono ?_
      rintro e w21 ⟨rfl, hm21, ho21⟩
      have e21 : ((newM [ww] (Int.toNat 10) []).setV 1 (a % 4294967296)).setV 2 (b % 4294967296) = oneM n (a % 4294967296) (b % 4294967296) := by rw [Hww.out]; rfl
      rw [e21] at hm21
      have HM21 := Lib.hid hm21
      have Ho21 := Lib.hid ho21
      clear hm21 ho21 e21
      go_wp2_with fail
      refine (mach_Step HM21.out (by rw [show (oneM n (a % 4294967296) (b % 4294967296)).out = [] from rfl]; decide) (by rw [show (oneM n (a % 4294967296) (b % 4294967296)).steps = 0 from rfl]; decide)).mono ?_
      rintro e w22 ⟨rfl, vo', rd', hm22, ho22, hv22⟩
      obtain ⟨mz, hmz⟩ : ∃ mz, mz = (oneM n (a % 4294967296) (b % 4294967296)).step := ⟨_, rfl⟩
      rw [← hmz] at Hone hm22 ⊢
      clear hmz hv22
      have HM22 := Lib.hid hm22
      have Ho22 := Lib.hid ho22
      clear hm22 ho22
      go_wp2_with fail
      have hr := mach_Reg 3 HM22.out
      rw [Hone.out] at hr
      have Hr := Lib.hid hr
      clear hr
      refine Hr.out.mono ?_
      rintro e w23 ⟨rfl, rfl⟩
      have hsz19 : W.heap.size ≤ w18.heap.size := HW18.out.size
      have HWe := Lib.hid (((HW19.out.trans (Ho20.out.below HW19.out.size (fun k hk => by subst hk; omega))).trans (Ho21.out.below (Nat.le_trans HW19.out.size Ho20.out.size) (fun k hk => by subst hk; omega))).trans
        (Ho22.out.below (Nat.le_trans (Nat.le_trans HW19.out.size Ho20.out.size) Ho21.out.size) (fun k hk => Nat.le_trans hsz19 (HM21.out.foot_lt hk).1)))
      go_wp2_with fail
      refine (HAw.out w22 (HL.out.keep HWe.out (by exact HL.out.size))).mono ?_
      rintro e w24 ⟨rfl, hb24⟩
      go_wp2_with fail
      refine bodyPost_ret (v := .bool true) (results_tmp Tryz.results4 _ _ _) rfl ⟨rfl, HWe.out.trans (hb24.mono HWe.out.size)⟩

end Go.Proofs.YtlldagdhlfpihaaGreatDoor
