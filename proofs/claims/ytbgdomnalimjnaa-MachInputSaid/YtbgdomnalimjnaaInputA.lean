/- The law MachInput: its walk. -/
import Derived.Test.YtbgdomnalimjnaaSyncA
set_option linter.unusedVariables false
set_option linter.unusedSimpArgs false
set_option linter.unusedSectionVars false
namespace Go.Proofs.Ytbgdomnalimjnaa
open Go.RowKit

theorem inst_size5 : (Try.prog.info? 39).map (·.size) = some 5 := by kernel_rfl
theorem at_Place {w : World} {B : Nat} {x : Mc} {p : Nat} {a : Int} (hx : x.at_ w B) (hp : x.p = p) (e : x.m.place = a) : Calls Try.prog 19 #[.pointer (some ⟨p, 0, none⟩)] w fun e w' => e = .returned (.int .u32 a) ∧ w = w' := by
  subst hp e
  exact mach_Place hx
theorem at_Mem {w : World} {B : Nat} {x : Mc} {p : Nat} {a : Int} {b : Bool} (i : Int) (hx : x.at_ w B) (hp : x.p = p) (e : x.m.memV i = a) (e2 : x.m.memB i = b) : Calls Try.prog 18 #[.pointer (some ⟨p, 0, none⟩), .int .i64 i] w fun e w' => e = .returned (.tuple #[.int .u32 a, .bool b]) ∧ Below w.heap.size w w' := by
  subst hp e e2
  refine (mach_Mem i hx).mono ?_
  rintro e w2 ⟨rfl, n, rfl⟩
  exact ⟨rfl, below_drewN (Below.refl _ _) n⟩

theorem step_appends {P : Program} {ops : Array Oper} {o : Oper} {a : Act} {K : Act → World → Prop} {Q : Exit → Act → World → Prop} {E : Prop} {w : World} (hg : o.guard = none) (s x : Operand) (t : TypeId)
    (ho : o.op = .call { callee := .builtin .append, args := #[s, x], argTypes := #[t, t] })
    (base : Nat) (e : TypeId) {z : Value} {size bytes : Nat} (hinfo : (P.info? e).map (fun i => (i.zero, i.size, i.bytes)) = some (some z, size, bytes)) (ht : P.underlying t = some (.slice e))
    (hzs : z.cells.size = size) (hsz : 0 < size) (v : Value) (n : Nat) (xs : List Value) (hs : a.eval s = v) (hown : w.ownsRow base e size v n xs)
    (B : Nat) (A : Option Addr) (m c : Nat) (news : List Value) (hx : a.eval x = .slice A m c) (hm : news.length = m * size) (hA : A = none → m = 0) (hr : Reads w B A news) (h1 : ∀ u ∈ news, u.oneCell' = true)
    (h63 : n + m ≤ maxLen) (hbytes : (n + m) * bytes ≤ 140737488355328) (hbase : base ≤ w.heap.size)
    (h : ∀ v' w', w'.ownsRow base e size v' (n + m) (xs ++ news) → w.grownBy w' v.ownBlock → Below base w w' → (v'.ownBlock = v.ownBlock ∨ v'.ownBlock = some w.heap.size) → K (a.put o.dst v') w') :
    if Region.wanted o (yielded ops a.tmps) = true then Oper.wp P o a w K Q else E := by
  have hw : Region.wanted o (yielded ops a.tmps) = true := by simp [Region.wanted, hg]
  rw [if_pos hw]
  exact wp_appendsN s x t ho base e hinfo ht hzs hsz v n xs hs hown B A m c news hx hm hA hr h1 h63 hbytes hbase h

set_option maxRecDepth 100000 in
set_option maxHeartbeats 8000000 in
theorem law_MachInput (Aw Ai Ar Am : Option Addr) (cw ci cr cm : Nat) (W I R Mo : List Int) (size n : Int) (w : World) (hS : Sett w Aw Ai Ar cw ci cr W I R)
    (hMo : Reads w w.heap.size Am (Mo.map (Value.int .u8))) (hlm : Mo.length ≤ cm ∧ cm ≤ maxLen) (hmb : ∀ x ∈ Mo, 0 ≤ x ∧ x ≤ 255) :
    Calls Try.prog 4 #[.agg #[.slice Aw W.length cw, .int .i64 size, .slice Ai I.length ci, .slice Ar R.length cr], .int .i64 n, .slice Am Mo.length cm] w fun e w' => e = .returned (.bool true) ∧ Below w.heap.size w w' := by
  obtain ⟨f1, f2, _⟩ := madeM_facts W I R size
  have HS := Lib.hid hS
  have HMo := Lib.hid (reads_take hMo 20)
  have HMb := Lib.hid (fun x hx => hmb x (List.mem_of_mem_take (i := 20) hx))
  obtain ⟨hW, hI, hR, lw, li, lr, bw, bi, br⟩ := hS
  have HI := Lib.hid (reads_take hI 50)
  have HIb := Lib.hid (fun x hx => bi x (List.mem_of_mem_take (i := 50) hx))
  have hmp := made_plus W I (Mo.take 20) R size
  obtain ⟨J, hJd⟩ : ∃ J, J = I.take 50 := ⟨_, rfl⟩
  obtain ⟨E, hEd⟩ : ∃ E, E = Mo.take 20 := ⟨_, rfl⟩
  have e2 : (if 50 < (I.length : Int) then 50 else (I.length : Int)).toNat = J.length := by
    rw [hJd, List.length_take]; split <;> omega
  have e3 : (if 20 < (Mo.length : Int) then 20 else (Mo.length : Int)).toNat = E.length := by
    rw [hEd, List.length_take]; split <;> omega
  have hJl : J.length ≤ 50 := by rw [hJd, List.length_take]; omega
  have hEl : E.length ≤ 20 := by rw [hEd, List.length_take]; omega
  rw [← hJd] at HI HIb hmp
  rw [← hEd] at HMo HMb hmp
  have E2 := Lib.hid e2
  have E3 := Lib.hid e3
  have Hmp := Lib.hid hmp
  have HJd := Lib.hid hJd
  simp only [maxLen] at lw li lr hlm
  clear hW hI hR bw bi br hMo hmb e2 e3 hJd hEd hmp
  go_enter Try.func4, Try.ntmps4
  go_upto_region 1 with fail
  obtain ⟨x1, x2, x3⟩ := one_allocM w #[.slice Aw W.length cw, .int .i64 size, .slice Ai I.length ci, .slice Ar R.length cr] 25
  generalize w.alloc (.cells #[.slice Aw W.length cw, .int .i64 size, .slice Ai I.length ci, .slice Ar R.length cr] 25) = wb at *
  have q0 : wb.cell? ⟨w.heap.size, 0, none⟩ = some (.slice Aw W.length cw) := by rw [blk_cellM x1]; rfl
  have q1 : wb.cell? ⟨w.heap.size, 1, none⟩ = some (.int .i64 size) := by rw [blk_cellM x1]; rfl
  have q2 : wb.cell? ⟨w.heap.size, 2, none⟩ = some (.slice Ai I.length ci) := by rw [blk_cellM x1]; rfl
  have q3 : wb.cell? ⟨w.heap.size, 3, none⟩ = some (.slice Ar R.length cr) := by rw [blk_cellM x1]; rfl
  have gb : w.heap.size < wb.heap.size := by omega
  clear x1 x3
  go_wp2_with fail
  refine ((HS.out.below x2).made size).mono ?_
  rintro e w2 ⟨hb2, ⟨_, rfl⟩ | ⟨hok, p, q, rfl, hB⟩⟩
  · have hbz := x2.trans (hb2.mono x2.size)
    clear x2 hb2
    go_wp2_with fail
    refine (law2_works w2).mono ?_
    rintro e w3 ⟨rfl, hb3⟩
    go_wp2_with fail
    go_ret
    exact ⟨rfl, hbz.trans (hb3.mono hbz.size)⟩
  have hml := made_len (I := I) (R := R) hok
  have Hok := Lib.hid hok
  have hB' := hB.base x2.size
  have hbz := x2.trans (hb2.mono x2.size)
  have r0 := (hb2.cell (p := ⟨w.heap.size, 0, none⟩) gb).trans q0
  have r1 := (hb2.cell (p := ⟨w.heap.size, 1, none⟩) gb).trans q1
  have r2 := (hb2.cell (p := ⟨w.heap.size, 2, none⟩) gb).trans q2
  have r3 := (hb2.cell (p := ⟨w.heap.size, 3, none⟩) gb).trans q3
  have gr : w.heap.size < w2.heap.size := Nat.lt_of_lt_of_le gb hb2.size
  rw [← HJd.out] at hB'
  generalize madeM W I R size = M at *
  have hg := steps_grow M
  have hsl := steps_len M
  obtain ⟨sd, hT⟩ := hB'
  have hF := hT.fam
  have HF : Hid (∃ x : Mc, x.p = p ∧ x.m = M ∧ (∀ k o t, x.A = some ⟨k, o, t⟩ → w.heap.size ≤ k) ∧ Fam w2 w.heap.size [x]) := Lib.hid ⟨_, rfl, rfl, hT.lowA, hF⟩
  clear hB hT hF x2 hb2 q0 q1 q2 q3 gb hok
  go_upto_region 4 with fail
  go_cut [1] (fun v1 wc => ∃ a : Int, v1 = .int .i64 a ∧ wc = w2 ∧ 0 ≤ a ∧ a ≤ 500)
  case first =>
    go_wp2_with fail
    all_goals
      go_meet
      exact ⟨_, rfl, rfl, by omega, by omega⟩
  case rest =>
  obtain ⟨a, rfl, rfl, ha0, ha1⟩ := hcut
  obtain ⟨na, rfl⟩ : ∃ na : Nat, a = na := ⟨a.toNat, by omega⟩
  go_upto_region 5 with fail
  go_cut [11] (fun v11 wc2 => v11 = .slice Ai J.length ci ∧ wc2 = wc)
  case first =>
    by_cases hs : 50 < (I.length : Int)
    · have e := E2.out
      rw [if_pos hs] at e
      have E := Lib.hid e
      clear e
      go_wp2_with fail
      all_goals
        go_meet
        exact ⟨by first | (rw [← E.out]; done) | (rw [← E.out]; rfl), rfl⟩
    · have e := E2.out
      rw [if_neg hs] at e
      have E := Lib.hid (show I.length = J.length by omega)
      clear e
      go_wp2_with fail
      all_goals
        go_meet
        exact ⟨by first | (rw [← E.out]; done) | (rw [← E.out]; rfl), rfl⟩
  case rest =>
  obtain ⟨rfl, rfl⟩ := hcut
  have h4 : (Try.prog.info? 25).map (·.size) = some 4 := by kernel_rfl
  have H4 := Lib.hid h4
  clear h4
  go_upto_region 7 with (refine wpList_store_row (o := ⟨none, .store 25 (.tmp 12) (.tmp 45), _, _, _, _⟩) rfl 25 (.tmp 12) (.tmp 45) rfl wc.heap.size #[.slice Aw W.length cw, .int .i64 size, .slice Ai I.length ci, .slice Ar R.length cr] rfl rfl 25 _ (one_allocM wc _ _).1 (by rw [H4.out]; rfl) rfl rfl ?_)
  obtain ⟨wu, rfl⟩ : ∃ wu, wu = wc := ⟨_, rfl⟩
  refine wp_forget (fun wy => wy.heap[wu.heap.size]? = some (.cells #[.slice Aw W.length cw, .int .i64 size, .slice Ai I.length ci, .slice Ar R.length cr] 25 (0, 0)) ∧ Below wu.heap.size wu wy ∧ wy.heap.size = wu.heap.size + 1) (one_allocM wu _ _) ?_
  rintro wy ⟨y1, y2, y3⟩
  have HJy := Lib.hid (((HI.out.below hbz).moreM hbz.size).below y2)
  have HEy := Lib.hid (((HMo.out.below hbz).moreM hbz.size).below y2)
  have Hwy := Lib.hid (show wu.heap.size < wy.heap.size by omega)
  have Y1 := Lib.hid y1
  have Y2 := Lib.hid y2
  have Y3 := Lib.hid y3
  clear y1 y2 y3
  go_cut [46] (fun v46 wx => ∃ A5 c5, wx.heap[wu.heap.size]? = some (.cells #[.slice Aw W.length cw, .int .i64 size, .slice A5 (J ++ E).length c5, .slice Ar R.length cr] 25 (0, 0)) ∧
    wx.ownsRow wu.heap.size 5 1 (.slice A5 (J ++ E).length c5) (J ++ E).length ((J ++ E).map (Value.int .u8)) ∧ Below wu.heap.size wu wx)
  case first =>
    refine wp_region_any (by kernel_rfl) ?_
    change wpAny _ _ _ _ _ _ _ (World.drew _)
    have hlm1 := hlm.1
    have hlm2 := hlm.2
    have HAi := Lib.hid (show Ai = none → J.length = 0 from fun h => by
      by_cases h0 : J.length = 0
      · exact h0
      · obtain ⟨b, o, e, _⟩ := HI.out (by rw [List.length_map]; omega)
        rw [h] at e; cases e)
    have HAm := Lib.hid (show Am = none → E.length = 0 from fun h => by
      by_cases h0 : E.length = 0
      · exact h0
      · obtain ⟨b, o, e, _⟩ := HMo.out (by rw [List.length_map]; omega)
        rw [h] at e; cases e)
    have e3i : (if 20 < (Mo.length : Int) then 20 else (Mo.length : Int)) = (E.length : Int) := by
      have h := E3.out
      split at h
      · rename_i hh
        rw [if_pos hh]; omega
      · rename_i hh
        rw [if_neg hh]; omega
    have hE1 : E.length ≤ cm := by
      have h := e3i
      split at h <;> omega
    refine wpAny_take (i := 1) (v := ?v1n1) rfl (by kernel_rfl) (by kernel_rfl) (by kernel_rfl) (fun _ _ _ h => h) (Or.inl ⟨by rfl, ?y1n1⟩) ?z1n1
    case y1n1 => (intro w; first | (go_simp; done) | (go_simp; with_reducible rfl))
    refine wpAny_take (i := 3) (v := ?v3n2) rfl (by kernel_rfl) (by kernel_rfl) (by kernel_rfl) (fun _ _ _ h => h) (Or.inl ⟨by rfl, ?y3n2⟩) ?z3n2
    case y3n2 => (intro w; first | (go_simp; done) | (go_simp; with_reducible rfl))
    refine wpAny_take (i := 4) (v := ?v4n3) rfl (by kernel_rfl) (by kernel_rfl) (by kernel_rfl) (fun _ _ _ h => h) (Or.inl ⟨by rfl, ?y4n3⟩) ?z4n3
    case y4n3 => (intro w; first | (go_simp; done) | (go_simp; with_reducible rfl))
    refine wpAny_take (i := 5) (v := ?v5n4) rfl (by kernel_rfl) (by kernel_rfl) (by kernel_rfl) (fun _ _ _ h => h) (Or.inl ⟨by rfl, ?y5n4⟩) ?z5n4
    case y5n4 => (intro w; first | (go_simp; done) | (go_simp; with_reducible rfl))
    refine wpAny_take (i := 6) (v := ?v6n5) rfl (by kernel_rfl) (by kernel_rfl) (by kernel_rfl) (fun _ _ _ h => h) (Or.inl ⟨by rfl, ?y6n5⟩) ?z6n5
    case y6n5 => (intro w; first | (go_simp; done) | (go_simp; with_reducible rfl))
    try rw [e3i]
    clear e3i
    refine wpAny_take (i := 7) (v := ?v7n6) rfl (by kernel_rfl) (by kernel_rfl) (by kernel_rfl) (fun _ _ _ h => h) (Or.inl ⟨by rfl, ?y7n6⟩) ?z7n6
    case y7n6 => (intro w; first | (go_simp; done) | (go_simp; with_reducible rfl))
    refine wpAny_ready (rs := [0]) (by kernel_rfl) (by simp) ?_
    refine AllReady.cons rfl (fun K hK => ?_) AllReady.nil
    go_simp
    refine hK _ _ ?_
    clear hK K
    try simp only [List.getElem_toArray, List.getElem_cons_succ, List.getElem_cons_zero, Act.put, List.setIfInBounds_toArray, List.set_cons_succ, List.set_cons_zero]
    refine wpAny_ready (rs := [2]) (by kernel_rfl) (by simp) ?_
    refine AllReady.cons rfl (fun K hK => ?_) AllReady.nil
    have hbd : Below wy.heap.size wy (wy.alloc (.cells #[] 5)).drew := ((Below.refl wy.heap.size wy).alloc (Nat.le_refl _) (.cells #[] 5)).drew
    have hm : (wy.alloc (.cells #[] 5)).drew.ownsRow wy.heap.size 5 1 (.slice (some ⟨wy.heap.size, 0, none⟩) 0 0) 0 [] := World.ownsRow_made wy #[] 0 (Nat.le_refl _) (by simp [maxLen]) (by simp)
    generalize (wy.alloc (.cells #[] 5)).drew = wz at *
    have hyz := hbd.size
    have hwy := Hwy.out
    have Hz := Lib.hid (Y2.out.trans (hbd.mono (Nat.le_of_lt hwy)))
    have HJz := Lib.hid (HJy.out.below (hbd.mono (Nat.le_of_lt hwy)))
    have HEz := Lib.hid (HEy.out.below (hbd.mono (Nat.le_of_lt hwy)))
    have Yz := Lib.hid ((hbd.block wu.heap.size hwy).trans Y1.out)
    clear HJy HEy hbd
    refine step_appends rfl (.tmp 46) (.tmp 47) _ rfl wy.heap.size 5 u8_infoM Try.underlying23 rfl (by decide) _ 0 [] rfl hm wu.heap.size Ai J.length ci (J.map (Value.int .u8)) rfl (by simp) HAi.out HJz.out (by simp [Value.oneCell']) (by simp only [maxLen]; omega) (by omega) hyz ?_
    intro v1 wz1 ho1 hg1 hb1 hat1
    obtain ⟨A1, c1, rfl⟩ := ownsRow_form ho1
    refine hK _ _ ?_
    clear hK K
    have hz1 := hb1.size
    have HEz1 := Lib.hid (HEz.out.below (hb1.mono (Nat.le_of_lt hwy)))
    have Hz1 := Lib.hid (Hz.out.trans (hb1.mono (Nat.le_of_lt hwy)))
    have Yz1 := Lib.hid ((hb1.block wu.heap.size hwy).trans Yz.out)
    clear HEz Hz Yz HJz hm hg1 hat1 hb1
    refine wpAny_ready (rs := [8]) (by kernel_rfl) (by simp) ?_
    refine AllReady.cons rfl (fun K hK => ?_) AllReady.nil
    refine step_appends rfl (.tmp 48) (.tmp 53) _ rfl wy.heap.size 5 u8_infoM Try.underlying23 rfl (by decide) _ _ _ rfl ho1 wu.heap.size Am E.length cm (E.map (Value.int .u8)) rfl (by simp) HAm.out HEz1.out (by simp [Value.oneCell']) (by simp only [maxLen]; omega) (by omega) (by omega) ?_
    intro v2 wz2 ho2 hg2 hb2 hat2
    obtain ⟨A2, c2, rfl⟩ := ownsRow_form ho2
    refine hK _ _ ?_
    clear hK K
    have Hz2 := Lib.hid (Hz1.out.trans (hb2.mono (Nat.le_of_lt hwy)))
    have Yz2 := (hb2.block wu.heap.size hwy).trans Yz1.out
    have hz2 := hb2.size
    rw [Nat.zero_add, List.nil_append, ← List.map_append, ← List.length_append] at ho2
    have HO2 := Lib.hid ho2
    have z2 := cell_of_row wz2 wu.heap.size 2 _ _ (0, 0) Yz2
    have zf := frozen_of_row wz2 wu.heap.size 2 _ _ Yz2
    have hwz2 : wu.heap.size < wz2.heap.size := by omega
    have YZ2 := Lib.hid Yz2
    clear ho1 ho2 hg2 hb2 hat2 Hz1 Yz1 HEz1 Yz2
    refine wpAny_take (i := 9) (v := ?v9n7) rfl (by kernel_rfl) (by kernel_rfl) (by kernel_rfl) (fun _ _ _ h => h) (Or.inl ⟨by rfl, ?y9n7⟩) ?z9n7
    case y9n7 => (intro w; first | (go_simp; done) | (go_simp; with_reducible rfl))
    refine wpAny_ready (rs := [10]) (by kernel_rfl) (by simp) ?_
    refine AllReady.cons rfl (fun K hK => ?_) AllReady.nil
    go_simp
    refine hK _ _ ?_
    clear hK K
    refine wpAny_done (by kernel_rfl) ?_ _
    go_wp2_with fail
    go_meet
    refine ⟨A2, c2, ?_, ?_, ?_⟩
    · rw [List.length_append]
      exact heap_setCell_same wz2 wu.heap.size 2 _ _ _ YZ2.out
    · refine ownsRow_base (ownsRow_same HO2.out fun k hk => Below.heap_setCell _ _ _ _ ?_) (Nat.le_of_lt hwy)
      have := (HO2.out.lt k hk).1
      intro e
      have e' : k = wu.heap.size := e
      omega
    · exact Hz2.out.setCell (p := ⟨wu.heap.size, 2, none⟩) (Nat.le_refl _) _
  case rest =>
  obtain ⟨A5, c5, hY, hO, hbx⟩ := hcut
  obtain ⟨N, hN⟩ : ∃ N, N = J ++ E := ⟨_, rfl⟩
  rw [← hN] at hY hO
  have hNb : ∀ x ∈ N, 0 ≤ x ∧ x ≤ 255 := fun x hx => by
    rw [hN, List.mem_append] at hx
    rcases hx with hx | hx
    · exact HIb.out x hx
    · exact HMb.out x hx
  have hNc : N.length ≤ c5 ∧ c5 ≤ maxLen := by
    rcases hO.2 with ⟨e, e2⟩ | ⟨g, cap, cur, e, _, _, e3, e4, _⟩
    · injection e with e5 e6 e7
      exact ⟨by omega, by rw [e7]; exact Nat.zero_le _⟩
    · injection e with e5 e6 e7
      exact ⟨by omega, by rw [e7]; exact e4⟩
  have hmpN : N.length ≤ 50 → madeM W N R size = M.plus E := by rw [hN]; exact Hmp.out
  have hbwx : Below w.heap.size w _ := hbz.trans (hbx.mono hbz.size)
  have hSx := HS.out.below hbwx
  have HSx : Hid (Sett _ Aw A5 Ar cw c5 cr W N R) := Lib.hid ⟨hSx.hW, Reads.of_own hO, hSx.hR, hSx.lw, hNc, hSx.lr, hSx.bw, hNb, hSx.br⟩
  have t0 := (cell_of_row _ wu.heap.size 0 _ _ (0, 0) hY).trans (show (#[Value.slice Aw W.length cw, .int .i64 size, .slice A5 N.length c5, .slice Ar R.length cr])[0]? = some (.slice Aw W.length cw) from rfl)
  have t1 := (cell_of_row _ wu.heap.size 1 _ _ (0, 0) hY).trans (show (#[Value.slice Aw W.length cw, .int .i64 size, .slice A5 N.length c5, .slice Ar R.length cr])[1]? = some (.int .i64 size) from rfl)
  have t2 := (cell_of_row _ wu.heap.size 2 _ _ (0, 0) hY).trans (show (#[Value.slice Aw W.length cw, .int .i64 size, .slice A5 N.length c5, .slice Ar R.length cr])[2]? = some (.slice A5 N.length c5) from rfl)
  have t3 := (cell_of_row _ wu.heap.size 3 _ _ (0, 0) hY).trans (show (#[Value.slice Aw W.length cw, .int .i64 size, .slice A5 N.length c5, .slice Ar R.length cr])[3]? = some (.slice Ar R.length cr) from rfl)
  have gx := (hO.lt)
  obtain ⟨xa, hxp, hxm, hxl, hFa⟩ := HF.out
  have hFx := hFa.below hbx
  have gy : wu.heap.size < wc.heap.size := (Array.getElem?_eq_some_iff.1 hY).1
  have HmpN := Lib.hid hmpN
  clear hSx hNc hNb hO hY gx HF hFa hmpN Hmp r0 r1 r2 r3 HIb HI HMb HMo E2 E3 HJd hN hbx
  by_cases hgt : 50 < N.length
  · go_wp2_with fail
    refine (law2_works _).mono ?_
    rintro e w6 ⟨rfl, hb6⟩
    go_wp2_with fail
    go_ret
    exact ⟨rfl, hbwx.trans (hb6.mono hbwx.size)⟩
  have Hpl := Lib.hid (HmpN.out (by omega))
  have hg2 := hg na
  go_wp2_with fail
  refine (HSx.out.made size).mono ?_
  rintro e w5 ⟨hb5, ⟨hno, _⟩ | ⟨_, pb, qb, rfl, hB5⟩⟩
  · exact absurd Hok.out hno
  rw [Hpl.out] at hB5
  obtain ⟨s5, hT5⟩ := hB5
  have hF5 : ∃ xb : Mc, xb.p = pb ∧ xb.m = M.plus E ∧ Fam w5 w.heap.size [xa, xb] := by
    refine ⟨⟨pb, s5.vm, s5.vo, s5.A, s5.c, N.take 50, s5.rd, M.plus E⟩, rfl, rfl, ⟨fun x hx => ?_, ?_⟩⟩
    · rcases List.mem_cons.1 hx with rfl | hx
      · exact MAt.below (hFx.at_ _ (by simp)) hb5
      · obtain rfl := List.mem_singleton.1 hx
        exact hT5.a.base hbwx.size
    · have hxa : xa.at_ _ w.heap.size := hFx.at_ xa (by simp)
      refine List.pairwise_cons.2 ⟨fun z hz => ?_, List.pairwise_singleton _ _⟩
      obtain rfl := List.mem_singleton.1 hz
      refine ⟨fun k a b => ?_, fun k a b => ?_, fun k a b => ?_⟩
      · have h1 := (MAt.foot_lt hxa a).2
        have h2 := (hT5.a.foot_lt b).1
        omega
      · obtain ⟨o, t, e⟩ := b
        have h1 := (MAt.foot_lt hxa a).2
        have h2 := hT5.lowA k o t e
        omega
      · obtain ⟨o, t, e⟩ := a
        have h1 := MAt.la hxa k o t e
        have h2 := (hT5.a.foot_lt b).1
        omega
  obtain ⟨xb, hbp, hbm, hF⟩ := hF5
  have hbz5 := hbwx.trans (hb5.mono hbwx.size)
  have HX : Hid (xa.p = p ∧ xb.p = pb ∧ xa.m = M.steps_ 0 ∧ xb.m = xa.m.plus E) := Lib.hid ⟨hxp, hbp, hxm, by rw [hbm, hxm]⟩
  clear hxp hbp hxm hbm hT5 hFx hb5 HSx hbwx
  have HFa := Lib.hid hF
  clear hF
  go_wp2_with fail
  go_loopw [17] (fun v wr => ∃ i : Nat, i ≤ na ∧ v = .int .i64 i ∧ ∃ ya yb : Mc, ya.p = p ∧ yb.p = pb ∧ ya.m = M.steps_ i ∧ yb.m = ya.m.plus E ∧ Fam wr w.heap.size [ya, yb] ∧ Below w.heap.size w wr) (fun v _ => na - (intOf v).toNat)
  case atStart => exact ⟨0, by omega, rfl, xa, xb, HX.out.1, HX.out.2.1, HX.out.2.2.1, HX.out.2.2.2, HFa.out, hbz5⟩
  case round =>
    obtain ⟨i, hi, rfl, ya, yb, hap, hbp, ham, hbm, hF, hbr⟩ := hrel
    have gi := hg i
    rw [← ham] at gi
    have Hap := Lib.hid hap
    have Hbp := Lib.hid hbp
    have Ham := Lib.hid ham
    have Hbm := Lib.hid hbm
    clear hap hbp ham hbm
    by_cases hlt : i < na
    · have hok := MAt.ok (hF.at_ ya (by simp))
      have hpl0 := hok.place0
      have hpl1 := hok.place1
      have hmw : 0 ≤ ya.m.memV ya.m.place ∧ ya.m.memV ya.m.place ≤ 4294967295 := by
        unfold S.Mach.memV
        split
        · exact hok.memw _
        · omega
      clear hok
      go_wp2_with fail
      refine (at_Place (hF.at_ ya (by simp)) Hap.out rfl).mono ?_
      rintro e w6 ⟨rfl, rfl⟩
      go_wp2_with fail
      refine (at_Mem ya.m.place (hF.at_ ya (by simp)) Hap.out rfl rfl).mono ?_
      rintro e w7 ⟨rfl, hb7⟩
      have hF7 := hF.below hb7
      have hbr7 := hbr.trans (hb7.mono hbr.size)
      clear hF hb7 hbr
      have HR : Hid ((ya.m.memB ya.m.place = true ∧ S.decE (ya.m.memV ya.m.place) = 0 ∧ (S.dec (ya.m.memV ya.m.place)).op = 34 ∧ ya.m.state = 0) = ya.m.reads) := Lib.hid rfl
      go_wp2_with fail
      refine (isa_Decode _ _ hmw.1 hmw.2).mono ?_
      rintro e w8 ⟨rfl, hb8⟩
      have hF8 := hF7.below hb8
      have hbr8 := hbr7.trans (hb8.mono hbr7.size)
      clear hF7 hb8 hbr7 hmw
      generalize ya.m.memB ya.m.place = vb at *
      generalize S.decE (ya.m.memV ya.m.place) = ve at *
      generalize S.dec (ya.m.memV ya.m.place) = vi at *
      generalize ya.m.memV ya.m.place = vw at *
      go_upto_region 18 with (refine wpList_store_row (o := ⟨none, .store 39 (.tmp 20) (.tmp 86), _, _, _, _⟩) rfl 39 (.tmp 20) (.tmp 86) rfl w8.heap.size #[.int .i64 vi.op, .int .i64 vi.d, .int .i64 vi.a, .int .i64 vi.b, .int .i64 vi.imm] rfl rfl 39 _ (one_allocM w8 _ _).1 (by rw [inst_size5]; rfl) rfl rfl ?_)
      refine wp_forget (fun wy => wy.heap[w8.heap.size]? = some (.cells #[.int .i64 vi.op, .int .i64 vi.d, .int .i64 vi.a, .int .i64 vi.b, .int .i64 vi.imm] 39 (0, 0)) ∧ Below w8.heap.size w8 wy ∧ wy.heap.size = w8.heap.size + 1) (one_allocM w8 _ _) ?_
      rintro w9 ⟨y1, y2, y3⟩
      have c0 := (cell_of_row w9 w8.heap.size 0 _ _ (0, 0) y1).trans (show (#[Value.int .i64 vi.op, .int .i64 vi.d, .int .i64 vi.a, .int .i64 vi.b, .int .i64 vi.imm])[0]? = some (.int .i64 vi.op) from rfl)
      have hF9 := hF8.below y2
      have hbr9 := hbr8.trans (y2.mono hbr8.size)
      have g9 : w8.heap.size < w9.heap.size := by omega
      clear hF8 hbr8 y1 y2 y3
      go_cut [102] (fun v102 wc => v102 = .bool (decide (vb = true ∧ ve = 0 ∧ vi.op = 34 ∧ ya.m.state = 0)) ∧ wc = w9)
      case first =>
        have HD : Hid (∀ b : Bool, ((vb = true ∧ ve = 0 ∧ vi.op = 34 ∧ ya.m.state = 0) ↔ b = true) → decide (vb = true ∧ ve = 0 ∧ vi.op = 34 ∧ ya.m.state = 0) = b) := Lib.hid (fun b h => by cases b <;> simp_all)
        cases vb with
        | false =>
          have e := Lib.hid (HD.out false (by simp))
          clear HD
          go_wp2_with fail
          all_goals
            go_meet
            exact ⟨by rw [e.out], rfl⟩
        | true =>
          by_cases h1 : ve = 0
          · by_cases h2 : vi.op = 34
            · by_cases h3 : ya.m.state = 0
              · have e := Lib.hid (HD.out true (by simp [h1, h2, h3]))
                have d1 : (ve == 0) = true := by simp [h1]
                have d2 : (vi.op == 34) = true := by simp [h2]
                have d3 : (ya.m.state == 0) = true := by simp [h3]
                clear HD h1 h2 h3
                go_wp2_with (go_at_call 21; refine (at_State (hF9.at_ ya (by simp)) Hap.out rfl).mono ?_; rintro e w10 ⟨rfl, rfl⟩)
                all_goals
                  go_meet
                  exact ⟨by rw [e.out], rfl⟩
              · have e := Lib.hid (HD.out false (by simp [h3]))
                have d1 : (ve == 0) = true := by simp [h1]
                have d2 : (vi.op == 34) = true := by simp [h2]
                have d3 : (ya.m.state == 0) = false := by simp [h3]
                clear HD h1 h2 h3
                go_wp2_with (go_at_call 21; refine (at_State (hF9.at_ ya (by simp)) Hap.out rfl).mono ?_; rintro e w10 ⟨rfl, rfl⟩)
                all_goals
                  go_meet
                  exact ⟨by rw [e.out], rfl⟩
            · have e := Lib.hid (HD.out false (by simp [h2]))
              have d1 : (ve == 0) = true := by simp [h1]
              have d2 : (vi.op == 34) = false := by simp [h2]
              clear HD h1 h2
              go_wp2_with fail
              all_goals
                go_meet
                exact ⟨by rw [e.out], rfl⟩
          · have e := Lib.hid (HD.out false (by simp [h1]))
            have d1 : (ve == 0) = false := by simp [h1]
            clear HD h1
            go_wp2_with fail
            all_goals
              go_meet
              exact ⟨by rw [e.out], rfl⟩
      case rest =>
      obtain ⟨rfl, rfl⟩ := hcut
      by_cases hre : vb = true ∧ ve = 0 ∧ vi.op = 34 ∧ ya.m.state = 0
      · have d : decide (vb = true ∧ ve = 0 ∧ vi.op = 34 ∧ ya.m.state = 0) = true := decide_eq_true hre
        rw [d]
        clear d hre
        go_wp2_with fail
        refine (law2_works _).mono ?_
        rintro e w10 ⟨rfl, hb10⟩
        go_wp2_with fail
        go_ret
        exact ⟨rfl, hbr9.trans (hb10.mono hbr9.size)⟩
      · have d : decide (vb = true ∧ ve = 0 ∧ vi.op = 34 ∧ ya.m.state = 0) = false := decide_eq_false hre
        have hnr : ¬ ya.m.reads := by rw [← HR.out]; exact hre
        have hsp := step_plus ya.m E hpl0 hnr
        rw [d]
        have Hsp := Lib.hid hsp
        have gs := hg (i + 1)
        clear d hre hnr hsp HR
        go_wp2_with fail
        refine (fam_step hF9 Hap.out (by omega) (by omega)).mono ?_
        rintro e w10 ⟨ya2, rfl, ham2, hap2, hF10, hb10⟩
        have hbr10 := hbr9.trans hb10
        have Ham2 := Lib.hid ham2
        have Hap2 := Lib.hid hap2
        clear hF9 hb10 hbr9 ham2 hap2
        go_wp2_with fail
        refine (fam_step hF10.second Hbp.out (by rw [Hbm.out]; show ya.m.out.length ≤ _; omega) (by rw [Hbm.out]; show 0 ≤ ya.m.steps ∧ ya.m.steps ≤ _; omega)).mono ?_
        rintro e w11 ⟨yb2, rfl, hbm2, hbp2, hF11, hb11⟩
        have hbr11 := hbr10.trans hb11
        rw [Hbm.out, Hsp.out, ← Ham2.out] at hbm2
        have hst : yb2.m.state = ya2.m.state := by rw [hbm2]; rfl
        rw [hst]
        have Hbm2 := Lib.hid hbm2
        have Hbp2 := Lib.hid hbp2
        have Hm := Lib.hid (show ya2.m = M.steps_ (i + 1) by rw [Ham2.out, Ham.out]; rfl)
        have hF12 := hF11.second
        clear hF10 hF11 hb11 hbr10 hbm2 hbp2 hst
        go_wp2_with fail
        go_roundw
        case rel => exact ⟨i + 1, by omega, by go_num, ya2, yb2, Hap2.out, Hbp2.out, Hm.out, Hbm2.out, hF12, hbr11⟩
        case measure =>
          simp only [intOf]
          omega
    · have hsn := plus_seen ya.m E
      rw [← Hbm.out] at hsn
      have Hsn := Lib.hid hsn
      clear hsn
      go_wp2_with fail
      refine (at_same (hF.at_ ya (by simp)) (hF.at_ yb (by simp)) Hap.out Hbp.out Hsn.out (by omega)).mono ?_
      rintro e w9 ⟨rfl, hb9⟩
      have hbr9 := hbr.trans (hb9.mono hbr.size)
      clear hF hbr hb9
      go_wp2_with fail
      refine (law2_works _).mono ?_
      rintro e w10 ⟨rfl, hb10⟩
      go_wp2_with fail
      go_ret
      exact ⟨rfl, hbr9.trans (hb10.mono hbr9.size)⟩

end Go.Proofs.Ytbgdomnalimjnaa
