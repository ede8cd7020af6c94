/- pennantref24: inst, jump, Load, has, frame. -/
import Derived.Test.YtkdalaiponchbaaDoorEMkC
import Derived.Test.YtkdalaiponchbaaDoorEDig
import Derived.Test.YtkdalaiponchbaaDoorEEnt
import Derived.Test.YtkdalaiponchbaaDoorEMvs
import Derived.Laws.ResultCell
set_option linter.unusedVariables false
set_option linter.unusedSimpArgs false
set_option linter.unusedSectionVars false
namespace Go.Proofs.YtkdalaiponchbaaDoor
open Go.RowKit

set_option maxRecDepth 100000 in
set_option maxHeartbeats 1000000 in
theorem r_iInst (op d a b imm : Int) (w : World) : Calls Tryd.prog 32 #[.int .i64 op, .int .i64 d, .int .i64 a, .int .i64 b, .int .i64 imm] w fun e w' => e = .returned (itemV (S.iInst op d a b imm)) ∧ Below w.heap.size w w' := by
  go_enter Tryd.func32, Tryd.ntmps32
  go_wp2_with fail
  (try simp only [Exit.inBlock, Exit.then])
  refine bodyPost_ret (v := itemV (S.iInst op d a b imm)) (by simp [results, Tryd.results32, go_sem, itemV, S.iInst, S.noLab]) rfl ⟨rfl, (Below.refl _ _).alloc (Nat.le_refl _) _⟩
set_option maxRecDepth 100000 in
set_option maxHeartbeats 1000000 in
theorem r_iJump (d : Int) (s : ByteArray) (w : World) : Calls Tryd.prog 31 #[.int .i64 d, .string s] w fun e w' => e = .returned (itemV (S.iJump d s)) ∧ Below w.heap.size w w' := by
  go_enter Tryd.func31, Tryd.ntmps31
  go_wp2_with fail
  (try simp only [Exit.inBlock, Exit.then])
  refine bodyPost_ret (v := itemV (S.iJump d s)) (by simp [results, Tryd.results31, go_sem, itemV, S.iJump, S.noLab]) rfl ⟨rfl, (Below.refl _ _).alloc (Nat.le_refl _) _⟩

/-- A list of items, made by the call. -/
def LstP (xs : List S.Item) (w : World) (e : Ending) (w' : World) : Prop := ∃ A c, e = .returned (.slice A xs.length c) ∧ w'.ownsRow w.heap.size 49 8 (.slice A xs.length c) xs.length (xs.flatMap itemCells) ∧ Below w.heap.size w w'
theorem lst_own {B : Nat} {w1 : World} (hB : B ≤ w1.heap.size) (xs : List S.Item) (cs : Array Value) (hcs : cs.toList = xs.flatMap itemCells) (hl : xs.length ≤ 1000) :
    (w1.alloc (.cells cs 49)).ownsRow B 49 8 (.slice (some ⟨w1.heap.size, 0, none⟩) xs.length xs.length) xs.length (xs.flatMap itemCells) := by
  have hz : cs.size = xs.length * 8 := by rw [← Array.length_toList, hcs, flat8_len]
  refine ⟨flat8_len xs, .inr ⟨w1.heap.size, xs.length, cs, rfl, hB, heap_alloc_new w1 _, Nat.le_refl _, by simp only [maxLen]; omega, hz, ?_⟩⟩
  rw [hcs, ← flat8_len, List.take_length]
theorem lst_lit {w w1 : World} (hb : Below w.heap.size w w1) (xs : List S.Item) (cs : Array Value) (hcs : cs.toList = xs.flatMap itemCells) (hl : xs.length ≤ 1000) (n : Nat) (hn : n = xs.length) :
    LstP xs w (.returned (.slice (some ⟨w1.heap.size, 0, none⟩) n n)) (w1.alloc (.cells cs 49)) := by
  subst hn
  exact ⟨_, _, rfl, lst_own hb.size xs cs hcs hl, hb.alloc hb.size _⟩
theorem ret_any {a b : Value} (h : a = b) : Ending.returned a = .returned b := by rw [h]

set_option maxRecDepth 100000 in
set_option maxHeartbeats 2000000 in
theorem r_Load (d n : Int) (h0 : 0 ≤ n) (h1 : n ≤ 4294967295) (w : World) : Calls Tryd.prog 30 #[.int .i64 d, .int .u32 n] w (LstP (S.eload d n) w) := by
  have hk : n < 32768 ∨ (32768 ≤ n ∧ 4294934528 ≤ n) ∨ (32768 ≤ n ∧ n < 4294934528 ∧ n % 65536 = 0) ∨ (32768 ≤ n ∧ n < 4294934528 ∧ n % 65536 ≠ 0) := by omega
  have cv : IntKind.i64.wrap n = n := IntWalk.i64_in _ (by omega)
  rcases hk with k1 | ⟨k1, k2⟩ | ⟨k1, k2, k3⟩ | ⟨k1, k2, k3⟩
  · have He := Lib.hid (show S.eload d n = [S.iInst 15 d 0 0 n] by unfold S.eload; rw [if_pos k1])
    go_enter Tryd.func30, Tryd.ntmps30
    go_wp2_with fail
    refine (r_iInst 15 d 0 0 n w).mono ?_
    rintro e w2 ⟨rfl, hb⟩
    unfold itemV S.iInst S.noLab
    go_wp2_with fail
    go_ret
    rw [He.out]
    exact lst_lit hb [S.iInst 15 d 0 0 n] _ rfl (by simp) 1 rfl
  · have He := Lib.hid (show S.eload d n = [S.iInst 15 d 0 0 (n - 4294967296)] by unfold S.eload; rw [if_neg (by omega), if_pos k2])
    have n1 : ¬ n < 32768 := by omega
    have cw : IntKind.i64.wrap (n - 4294967296) = n - 4294967296 := IntWalk.i64_in _ (by omega)
    go_enter Tryd.func30, Tryd.ntmps30
    go_wp2_with fail
    refine (r_iInst 15 d 0 0 (n - 4294967296) w).mono ?_
    rintro e w2 ⟨rfl, hb⟩
    unfold itemV S.iInst S.noLab
    go_wp2_with fail
    go_ret
    rw [He.out]
    exact lst_lit hb [S.iInst 15 d 0 0 (n - 4294967296)] _ rfl (by simp) 1 rfl
  · have He := Lib.hid (show S.eload d n = [S.iInst 23 d 0 0 (n / 65536)] by unfold S.eload; rw [if_neg (by omega), if_neg (by omega), if_pos k3])
    have n1 : ¬ n < 32768 := by omega
    have n2 : ¬ 4294934528 ≤ n := by omega
    have t1 : n.tdiv 65536 = n / 65536 := Int.tdiv_eq_ediv_of_nonneg h0
    have t2 : n.tmod 65536 = 0 := by rw [Int.tmod_eq_emod_of_nonneg h0]; exact k3
    have u1 : IntKind.u32.wrap (n / 65536) = n / 65536 := by rw [IntKind.wrap_u32]; omega
    have u2 : IntKind.i64.wrap (n / 65536) = n / 65536 := IntWalk.i64_in _ (by omega)
    clear k3
    go_enter Tryd.func30, Tryd.ntmps30
    go_wp2_with fail
    refine (r_iInst 23 d 0 0 (n / 65536) w).mono ?_
    rintro e w2 ⟨rfl, hb⟩
    unfold itemV S.iInst S.noLab
    go_wp2_with fail
    go_ret
    rw [He.out]
    exact lst_lit hb [S.iInst 23 d 0 0 (n / 65536)] _ rfl (by simp) 1 rfl
  · have He := Lib.hid (show S.eload d n = [S.iInst 23 d 0 0 (n / 65536), S.iInst 17 d d 0 (n % 65536)] by unfold S.eload; rw [if_neg (by omega), if_neg (by omega), if_neg k3])
    have n1 : ¬ n < 32768 := by omega
    have n2 : ¬ 4294934528 ≤ n := by omega
    have t1 : n.tdiv 65536 = n / 65536 := Int.tdiv_eq_ediv_of_nonneg h0
    have t2 : n.tmod 65536 = n % 65536 := Int.tmod_eq_emod_of_nonneg h0
    have u1 : IntKind.u32.wrap (n / 65536) = n / 65536 := by rw [IntKind.wrap_u32]; omega
    have u2 : IntKind.i64.wrap (n / 65536) = n / 65536 := IntWalk.i64_in _ (by omega)
    have u3 : IntKind.u32.wrap (n % 65536) = n % 65536 := by rw [IntKind.wrap_u32]; omega
    have u4 : IntKind.i64.wrap (n % 65536) = n % 65536 := IntWalk.i64_in _ (by omega)
    go_enter Tryd.func30, Tryd.ntmps30
    go_wp2_with fail
    refine (r_iInst 23 d 0 0 (n / 65536) w).mono ?_
    rintro e w2 ⟨rfl, hb⟩
    unfold itemV S.iInst S.noLab
    have ho2 := lst_own hb.size [S.iInst 23 d 0 0 (n / 65536)] #[.int .i64 1, .int .i64 23, .int .i64 d, .int .i64 0, .int .i64 0, .int .i64 (n / 65536), .string ⟨#[]⟩, .int .u32 0] rfl (by simp)
    have hb3 : Below w.heap.size w (w2.alloc (.cells #[.int .i64 1, .int .i64 23, .int .i64 d, .int .i64 0, .int .i64 0, .int .i64 (n / 65536), .string ⟨#[]⟩, .int .u32 0] 49)) := hb.alloc hb.size _
    have Ho2 := Lib.hid ho2
    have Hb3 := Lib.hid hb3
    clear ho2 hb3
    go_wp2_with fail
    refine (r_iInst 17 d d 0 (n % 65536) _).mono ?_
    rintro e w4 ⟨rfl, hb4⟩
    unfold itemV S.iInst S.noLab
    have Ho4 := Lib.hid (ownsRow_below Ho2.out hb4)
    have Hb4 := Lib.hid (Hb3.out.trans (hb4.mono Hb3.out.size))
    have hz4 : w.heap.size ≤ w4.heap.size := Hb4.out.size
    clear hb4
    go_wp2_with (at_builtin
                 refine wpList_push rfl (.tmp 30) (.tmp 37) _ rfl w.heap.size 49 item_info Tryd.underlying28 rfl (by decide) #[.int .i64 1, .int .i64 17, .int .i64 d, .int .i64 d, .int .i64 0, .int .i64 (n % 65536), .string ⟨#[]⟩, .int .u32 0] _ _ _ rfl Ho4.out rfl rfl rfl (by simp [Value.oneCell']) (by simp [maxLen]) (by simp) hz4 ?_
                 intro v' w7 ho7 hg7 hb7 _
                 obtain ⟨A7, c7, rfl⟩ := ownsRow_form ho7)
    go_ret
    rw [He.out]
    exact ⟨A7, c7, rfl, ho7, Hb4.out.trans hb7⟩

set_option maxRecDepth 100000 in
set_option maxHeartbeats 1000000 in
theorem r_has (A : Option Addr) (l : List Int) (c : Nat) (n : Int) (w : World) (hA : Ints w w.heap.size A l) (hlen : l.length ≤ 1000000) : Calls Tryd.prog 83 #[.slice A l.length c, .int .i64 n] w fun e w' => e = .returned (.bool (decide (n ∈ l))) ∧ w' = w := by
  obtain ⟨N, hN⟩ : ∃ N : Nat, N = l.length := ⟨_, rfl⟩
  rw [← hN] at hlen ⊢
  have HN := Lib.hid hN
  have HA := Lib.hid hA
  clear hN hA
  obtain ⟨R, hR⟩ : ∃ R, R = decide (n ∈ l) := ⟨_, rfl⟩
  rw [← hR]
  have HR := Lib.hid hR
  clear hR
  go_enter Tryd.func83, Tryd.ntmps83
  go_wp2_with fail
  go_loopw [5] (fun v5 wl => w = wl ∧ ∃ k : Nat, k ≤ N ∧ v5 = .int .i64 k ∧ Hid (n ∉ l.take k)) (fun v5 _ => N - (intOf v5).toNat)
  case atStart => exact ⟨rfl, 0, by omega, rfl, Lib.hid (by simp)⟩
  case round =>
    obtain ⟨rfl, k, hk, rfl, HK⟩ := hrel
    by_cases hlt : k < N
    · have hkl : k < l.length := by rw [← HN.out]; exact hlt
      obtain ⟨b, off, hAe, hbB, hcx⟩ := HA.out.at_ hkl
      subst hAe
      obtain ⟨x, hx⟩ : ∃ x, x = l.getD k 0 := ⟨_, rfl⟩
      rw [← hx] at hcx
      have hge : l[k]? = some x := by rw [hx]; simp [hkl]
      have Hge := Lib.hid hge
      clear hx hge hkl
      by_cases hxn : x = n
      · have Hxn := Lib.hid hxn
        subst hxn
        go_wp2_with fail
        go_ret
        exact ⟨ret_bool (by rw [HR.out, decide_eq_true (List.mem_of_getElem? Hge.out)]), rfl⟩
      · have Hxn := Lib.hid hxn
        have hne := int_bne hxn
        clear hxn
        go_wp2_with fail
        go_roundw
        case rel =>
          refine ⟨trivial, k + 1, by omega, by go_num, Lib.hid (fun hm => ?_)⟩
          rw [(mv_split l k x Hge.out).2] at hm
          rcases List.mem_append.1 hm with hm | hm
          · exact HK.out hm
          · have h9 : n = x := by simpa using hm
            exact Hxn.out h9.symm
        case measure => simp [intOf]; omega
    · have hkN : N = k := by omega
      subst hkN
      have Hn := Lib.hid (show n ∉ l by have := HK.out; rw [HN.out, List.take_length] at this; exact this)
      go_wp2_with fail
      go_ret
      exact ⟨ret_bool (by rw [HR.out, decide_eq_false Hn.out]), rfl⟩


theorem mapLen_snoc (l : List Int) (s : Int) : S.mapLen (l ++ [s]) = (s / 32 + 1).toNat := by
  unfold S.mapLen
  rw [List.getLast?_append]
  simp
theorem mapLen_step {l : List Int} (hr : S.rising l = true) (hs : ∀ s ∈ l, 0 ≤ s ∧ s < 16777216) {k : Nat} {x : Int} (hx : l[k]? = some x) : ((S.mapLen (l.take k) : Nat) : Int) ≤ x / 32 + 1 := by
  have hx0 := hs x (List.mem_of_getElem? hx)
  unfold S.mapLen
  split
  · omega
  · rename_i s hls
    have hm := List.mem_of_getLast? hls
    have h1 := take_lt hr hx s hm
    have h2 := hs s (List.mem_of_mem_take hm)
    omega
theorem mapLen_small {l : List Int} (hs : ∀ s ∈ l, 0 ≤ s ∧ s < 16777216) : S.mapLen l ≤ 524288 := by
  unfold S.mapLen
  split
  · omega
  · rename_i s hls
    have := hs s (List.mem_of_getLast? hls)
    omega
theorem mapW_le (l : List Int) (base : Int) (k : Nat) (hk : k ≤ 32) : 0 ≤ S.mapW l base k ∧ S.mapW l base k < 4294967296 := by
  rw [mapW_hw]
  have h := hw_bd (fun t => mapBit_bd l (base + 31 - t)) k
  have e : (2 : Int) ^ 32 = 4294967296 := by decide
  have h2 : (2 : Int) ^ k ≤ 2 ^ 32 := by
    have := Nat.pow_le_pow_right (n := 2) (by omega) hk
    exact_mod_cast this
  omega
theorem mapW_lt31 (l : List Int) (base : Int) (k : Nat) (hk : k < 32) : 0 ≤ S.mapW l base k ∧ 2 * S.mapW l base k + 1 < 4294967296 := by
  rw [mapW_hw]
  have h := hw_bd (fun t => mapBit_bd l (base + 31 - t)) k
  have e : (2 : Int) ^ 31 = 2147483648 := by decide
  have h2 : (2 : Int) ^ k ≤ 2 ^ 31 := by
    have := Nat.pow_le_pow_right (n := 2) (by omega) (show k ≤ 31 by omega)
    exact_mod_cast this
  omega
/-- The words of a map up to the i-th. -/
def frTo (l : List Int) (n i : Nat) : List S.Item := S.iWord ((n : Nat) : Int) :: (List.range i).map fun (i : Nat) => S.iWord (S.mapW l (32 * (i : Int)) 32)
theorem frTo_len (l : List Int) (n i : Nat) : (frTo l n i).length = i + 1 := by simp [frTo]
theorem frTo_succ (l : List Int) (n i : Nat) : frTo l n (i + 1) = frTo l n i ++ [S.iWord (S.mapW l (32 * (i : Int)) 32)] := by
  simp [frTo, List.range_succ]

set_option maxRecDepth 100000 in
set_option maxHeartbeats 4000000 in
theorem r_frame (A : Option Addr) (l : List Int) (c : Nat) (w : World) (hA : Ints w w.heap.size A l) (hlen : l.length ≤ 1000) (hr : S.rising l = true) (hs : ∀ s ∈ l, 0 ≤ s ∧ s < 16777216) : Calls Tryd.prog 62 #[.slice A l.length c] w (LstP (S.eframe l) w) := by
  have Hhas := Lib.hid (fun (n : Int) (W : World) (hb : Below w.heap.size w W) => r_has A l c n W ((hA.below hb).more hb.size) (by omega))
  obtain ⟨N, hN⟩ : ∃ N : Nat, N = l.length := ⟨_, rfl⟩
  rw [← hN] at hlen Hhas ⊢
  have HN := Lib.hid hN
  have HA := Lib.hid hA
  have Hr := Lib.hid hr
  have Hs := Lib.hid hs
  obtain ⟨M, hM⟩ : ∃ M, M = S.mapLen l := ⟨_, rfl⟩
  have hMs := mapLen_small hs
  rw [← hM] at hMs
  have HM := Lib.hid hM
  have He := Lib.hid (show S.eframe l = frTo l M M by rw [hM]; rfl)
  have hcvM : IntKind.u32.wrap (M : Int) = M := by rw [IntKind.wrap_u32]; omega
  clear hN hA hr hs hM
  go_enter Tryd.func62, Tryd.ntmps62
  go_wp2_with fail
  go_loopw [3, 4] (fun v3 v4 wl => w = wl ∧ ∃ k : Nat, k ≤ N ∧ v4 = .int .i64 k ∧ v3 = .int .i64 ((S.mapLen (l.take k) : Nat) : Int)) (fun _ v4 _ => N - (intOf v4).toNat)
  case atStart => exact ⟨rfl, 0, by omega, rfl, rfl⟩
  case round =>
    obtain ⟨rfl, k, hk, rfl, rfl⟩ := hrel
    by_cases hlt : k < N
    · have hkl : k < l.length := by rw [← HN.out]; exact hlt
      obtain ⟨b, off, hAe, hbB, hcx⟩ := HA.out.at_ hkl
      subst hAe
      obtain ⟨x, hx⟩ : ∃ x, x = l.getD k 0 := ⟨_, rfl⟩
      rw [← hx] at hcx
      have hge : l[k]? = some x := by rw [hx]; simp [hkl]
      have hx0 := Hs.out x (List.mem_of_getElem? hge)
      have hst := mapLen_step Hr.out Hs.out hge
      have Hil := Lib.hid ((mv_split l k x hge).2)
      have Hsn := Lib.hid (mapLen_snoc (l.take k) x)
      obtain ⟨m, hm⟩ : ∃ m : Nat, m = S.mapLen (l.take k) := ⟨_, rfl⟩
      rw [← hm] at hst ⊢
      have tq : x.tdiv 32 = x / 32 := Int.tdiv_eq_ediv_of_nonneg hx0.1
      have wq : IntKind.i64.wrap (x / 32) = x / 32 := IntWalk.i64_in _ (by omega)
      have wq1 : IntKind.i64.wrap (x / 32 + 1) = x / 32 + 1 := IntWalk.i64_in _ (by omega)
      have mx : max (m : Int) (x / 32 + 1) = x / 32 + 1 := by omega
      have Hx0 := Lib.hid hx0
      clear hx hge hkl hm hx0 hst
      go_wp2_with fail
      refine ⟨⟨trivial, k + 1, by omega, by go_num, ?_⟩, by simp [intOf]; omega⟩
      rw [Hil.out, Hsn.out, Int.toNat_of_nonneg (by have := Hx0.out; omega)]
    · have hkN : N = k := by omega
      subst hkN
      have ht : S.mapLen (l.take N) = M := by rw [HM.out, HN.out, List.take_length]
      rw [ht]
      clear ht
      have hb1 : Below w.heap.size w (w.alloc (.cells #[.int .i64 6, .int .i64 0, .int .i64 0, .int .i64 0, .int .i64 0, .int .i64 0, .string ⟨#[]⟩, .int .u32 (M : Int)] 49)) := (Below.refl _ _).alloc (Nat.le_refl _) _
      have ho1 := lst_own (Nat.le_refl w.heap.size) [S.iWord (M : Int)] #[.int .i64 6, .int .i64 0, .int .i64 0, .int .i64 0, .int .i64 0, .int .i64 0, .string ⟨#[]⟩, .int .u32 (M : Int)] rfl (by simp)
      have Hb1 := Lib.hid hb1
      have Ho1 := Lib.hid ho1
      clear hb1 ho1
      go_wp2_with fail
      go_loopw [5, 6, 7, 8] (fun v5 v6 _ _ wl => ∃ i : Nat, i ≤ M ∧ v6 = .int .i64 i ∧ (∃ A5 c5, v5 = .slice A5 (i + 1) c5 ∧ Hid (wl.ownsRow w.heap.size 49 8 (.slice A5 (i + 1) c5) (i + 1) ((frTo l M i).flatMap itemCells))) ∧ Hid (Below w.heap.size w wl)) (fun _ v6 _ _ _ => M - (intOf v6).toNat)
      case atStart => exact ⟨0, by omega, rfl, ⟨_, _, rfl, Ho1⟩, Hb1⟩
      case round =>
        obtain ⟨i, hi, rfl, ⟨A5, c5, rfl, HO⟩, HB⟩ := hrel
        by_cases hlt : i < M
        · have wi : IntKind.i64.wrap (32 * (i : Int)) = 32 * (i : Int) := IntWalk.i64_in _ (by omega)
          have hzr := HB.out.size
          go_wp2_with fail
          go_loopw [7, 8] (fun v7 v8 wl => wr = wl ∧ ∃ q : Nat, q ≤ 32 ∧ v8 = .int .i64 (31 - (q : Int)) ∧ v7 = .int .u32 (S.mapW l (32 * (i : Int)) q)) (fun _ v8 _ => (intOf v8 + 1).toNat)
          case atStart => exact ⟨rfl, 0, by omega, rfl, rfl⟩
          case round =>
            obtain ⟨rfl, q, hq, rfl, rfl⟩ := hrel
            by_cases hq2 : q < 32
            · have hm := mapW_lt31 l (32 * (i : Int)) q hq2
              have Hst := Lib.hid (show S.mapW l (32 * (i : Int)) (q + 1) = 2 * S.mapW l (32 * (i : Int)) q + S.mapBit l (32 * (i : Int) + 31 - q) from rfl)
              have Hbt := Lib.hid (show S.mapBit l (32 * (i : Int) + 31 - q) = if 32 * (i : Int) + (31 - (q : Int)) ∈ l then 1 else 0 by unfold S.mapBit; rw [show 32 * (i : Int) + 31 - q = 32 * (i : Int) + (31 - (q : Int)) by omega])
              obtain ⟨m, hme⟩ : ∃ m, m = S.mapW l (32 * (i : Int)) q := ⟨_, rfl⟩
              rw [← hme] at hm Hst ⊢
              have u2 : IntKind.u32.wrap (2 * m) = 2 * m := by rw [IntKind.wrap_u32]; omega
              have u3 : IntKind.u32.wrap (2 * m + 1) = 2 * m + 1 := by rw [IntKind.wrap_u32]; omega
              have wj : IntKind.i64.wrap (32 * (i : Int) + (31 - (q : Int))) = 32 * (i : Int) + (31 - (q : Int)) := IntWalk.i64_in _ (by omega)
              have wd : IntKind.i64.wrap (31 - (q : Int) - 1) = 31 - ((q + 1 : Nat) : Int) := by rw [IntWalk.i64_in _ (by omega)]; omega
              have hge : (0 : Int) ≤ 31 - (q : Int) := by omega
              have Hm := Lib.hid hm
              have Hh := Lib.hid (Hhas.out (32 * (i : Int) + (31 - (q : Int))) wr HB.out)
              clear hm hme
              by_cases hbit : 32 * (i : Int) + (31 - (q : Int)) ∈ l
              · rw [decide_eq_true hbit] at Hh
                rw [if_pos hbit] at Hbt
                clear hbit
                go_wp2_with fail
                refine Hh.out.mono ?_
                rintro e w3 ⟨rfl, rfl⟩
                go_wp2_with fail
                go_roundw
                all_goals first
                  | exact ⟨⟨trivial, q + 1, by omega, rfl, by rw [Hst.out, Hbt.out]⟩, by simp [intOf]; omega⟩
                  | exact ⟨trivial, q + 1, by omega, rfl, by rw [Hst.out, Hbt.out]⟩
                  | (simp [intOf]; omega)
              · rw [decide_eq_false hbit] at Hh
                rw [if_neg hbit] at Hbt
                clear hbit
                go_wp2_with fail
                refine Hh.out.mono ?_
                rintro e w3 ⟨rfl, rfl⟩
                go_wp2_with fail
                go_roundw
                all_goals first
                  | exact ⟨⟨trivial, q + 1, by omega, rfl, by rw [Hst.out, Hbt.out, Int.add_zero]⟩, by simp [intOf]; omega⟩
                  | exact ⟨trivial, q + 1, by omega, rfl, by rw [Hst.out, Hbt.out, Int.add_zero]⟩
                  | (simp [intOf]; omega)
            · have hq3 : q = 32 := by omega
              subst hq3
              have Hsu := Lib.hid (frTo_succ l M i)
              obtain ⟨m, hme⟩ : ∃ m, m = S.mapW l (32 * (i : Int)) 32 := ⟨_, rfl⟩
              rw [← hme] at Hsu ⊢
              clear hme
              go_wp2_with (at_builtin
                           refine wpList_push rfl (.tmp 46) (.tmp 49) _ rfl w.heap.size 49 item_info Tryd.underlying28 rfl (by decide) #[.int .i64 6, .int .i64 0, .int .i64 0, .int .i64 0, .int .i64 0, .int .i64 0, .string ⟨#[]⟩, .int .u32 m] _ _ _ rfl HO.out rfl rfl rfl (by simp [Value.oneCell']) (by simp only [maxLen]; omega) (by omega) hzr ?_
                           intro v' w7 ho7 hg7 hb7 _
                           obtain ⟨A7, c7, rfl⟩ := ownsRow_form ho7)
              go_roundw
              case rel =>
                refine ⟨i + 1, by omega, by go_num, ⟨A7, c7, rfl, Lib.hid ?_⟩, Lib.hid (HB.out.trans hb7)⟩
                rw [Hsu.out, List.flatMap_append]
                exact ho7
              case measure => simp [intOf]; omega
        · have hiM : i = M := by omega
          subst hiM
          have Hl := Lib.hid (frTo_len l i i)
          go_wp2_with fail
          go_ret
          unfold LstP
          rw [He.out, Hl.out]
          exact ⟨A5, c5, rfl, HO.out, HB.out⟩

set_option maxRecDepth 100000 in
set_option maxHeartbeats 2000000 in
theorem r_moved (op d a b imm label : Int) (U M : Value) (hop : op = 73 ∨ op = 74) (h0 : 0 ≤ imm) (h1 : imm ≤ 16777216) (w : World) :
    Calls Tryd.prog 63 #[.agg #[.int .i64 op, .int .i64 d, .int .i64 a, .int .i64 b, .int .i64 imm, .int .i64 label, U, M]] w (LstP (if op = 73 then (S.eslot imm).1 ++ [S.iInst 24 d (S.eslot imm).2.1 0 (S.eslot imm).2.2] else (S.eslot imm).1 ++ [S.iInst 25 0 (S.eslot imm).2.1 a (S.eslot imm).2.2]) w) := by
  have hbx : Below w.heap.size w (w.alloc (.cells #[.int .i64 op, .int .i64 d, .int .i64 a, .int .i64 b, .int .i64 imm, .int .i64 label, U, M] 44)) := (Below.refl _ _).alloc (Nat.le_refl _) _
  have hr := heap_alloc_new w (.cells #[.int .i64 op, .int .i64 d, .int .i64 a, .int .i64 b, .int .i64 imm, .int .i64 label, U, M] 44)
  have hz : w.heap.size < (w.alloc (.cells #[.int .i64 op, .int .i64 d, .int .i64 a, .int .i64 b, .int .i64 imm, .int .i64 label, U, M] 44)).heap.size := by simp
  have w1 : IntKind.i64.wrap (32 + imm) = 32 + imm := IntWalk.i64_in _ (by omega)
  have w2 : IntKind.i64.wrap (imm - 1024) = imm - 1024 := IntWalk.i64_in _ (by omega)
  by_cases hi : imm < 1024
  · have hs : S.eslot imm = ([], 0, 32 + imm) := by unfold S.eslot; rw [if_pos hi]
    rw [hs]
    have n1 : ¬ 1024 ≤ imm := by omega
    rcases hop with rfl | rfl
    · go_enter Tryd.func63, Tryd.ntmps63
      go_upto_region 1 with fail
      generalize w.alloc (.cells #[.int .i64 73, .int .i64 d, .int .i64 a, .int .i64 b, .int .i64 imm, .int .i64 label, U, M] 44) = wb at *
      have HC := fun j => (show wb.cell? ⟨w.heap.size, j, none⟩ = #[.int .i64 73, .int .i64 d, .int .i64 a, .int .i64 b, .int .i64 imm, .int .i64 label, U, M][j]? by rw [Lib.cell_of_heap hr])
      have c0 := HC 0
      have c1 := HC 1
      have c4 := HC 4
      simp only [List.getElem?_toArray, List.getElem?_cons_zero, List.getElem?_cons_succ] at c0 c1 c4
      clear HC hr
      go_wp2_with fail
      refine (r_iInst 24 d 0 0 (32 + imm) wb).mono ?_
      rintro e w3 ⟨rfl, hb3⟩
      have Hb3 := Lib.hid (hbx.trans (hb3.mono hbx.size))
      have hz3 := Hb3.out.size
      unfold itemV S.iInst S.noLab
      clear c0 c1 c4 hb3
      go_wp2_with (at_builtin
                   refine wpList_push rfl (.tmp 24) (.tmp 30) _ rfl w.heap.size 49 item_info Tryd.underlying28 rfl (by decide) #[.int .i64 1, .int .i64 24, .int .i64 d, .int .i64 0, .int .i64 0, .int .i64 (32 + imm), .string ⟨#[]⟩, .int .u32 0] (.slice none 0 0) 0 [] rfl (World.ownsRow_nil _ _ _ _) rfl rfl rfl (by simp [Value.oneCell']) (by simp [maxLen]) (by simp) hz3 ?_
                   intro v' w7 ho7 hg7 hb7 _
                   obtain ⟨A7, c7, rfl⟩ := ownsRow_form ho7)
      go_ret
      exact ⟨A7, c7, rfl, ho7, Hb3.out.trans hb7⟩
    · go_enter Tryd.func63, Tryd.ntmps63
      go_upto_region 1 with fail
      generalize w.alloc (.cells #[.int .i64 74, .int .i64 d, .int .i64 a, .int .i64 b, .int .i64 imm, .int .i64 label, U, M] 44) = wb at *
      have HC := fun j => (show wb.cell? ⟨w.heap.size, j, none⟩ = #[.int .i64 74, .int .i64 d, .int .i64 a, .int .i64 b, .int .i64 imm, .int .i64 label, U, M][j]? by rw [Lib.cell_of_heap hr])
      have c0 := HC 0
      have c2 := HC 2
      have c4 := HC 4
      simp only [List.getElem?_toArray, List.getElem?_cons_zero, List.getElem?_cons_succ] at c0 c2 c4
      clear HC hr
      go_wp2_with fail
      refine (r_iInst 25 0 0 a (32 + imm) wb).mono ?_
      rintro e w3 ⟨rfl, hb3⟩
      have Hb3 := Lib.hid (hbx.trans (hb3.mono hbx.size))
      have hz3 := Hb3.out.size
      unfold itemV S.iInst S.noLab
      clear c0 c2 c4 hb3
      go_wp2_with (at_builtin
                   refine wpList_push rfl (.tmp 32) (.tmp 38) _ rfl w.heap.size 49 item_info Tryd.underlying28 rfl (by decide) #[.int .i64 1, .int .i64 25, .int .i64 0, .int .i64 0, .int .i64 a, .int .i64 (32 + imm), .string ⟨#[]⟩, .int .u32 0] (.slice none 0 0) 0 [] rfl (World.ownsRow_nil _ _ _ _) rfl rfl rfl (by simp [Value.oneCell']) (by simp [maxLen]) (by simp) hz3 ?_
                   intro v' w7 ho7 hg7 hb7 _
                   obtain ⟨A7, c7, rfl⟩ := ownsRow_form ho7)
      go_ret
      exact ⟨A7, c7, rfl, ho7, Hb3.out.trans hb7⟩
  · have hs : S.eslot imm = ([S.iAddr 25 S.moreLab (S.u32 (imm - 1024))], 25, 0) := by unfold S.eslot; rw [if_neg hi]
    rw [hs]
    have n1 : 1024 ≤ imm := by omega
    have hu : S.u32 (imm - 1024) = imm - 1024 := by unfold S.u32; omega
    rw [hu]
    have w3' : IntKind.u32.wrap (imm - 1024) = imm - 1024 := by rw [IntKind.wrap_u32]; omega
    rcases hop with rfl | rfl
    · go_enter Tryd.func63, Tryd.ntmps63
      go_upto_region 1 with fail
      generalize w.alloc (.cells #[.int .i64 73, .int .i64 d, .int .i64 a, .int .i64 b, .int .i64 imm, .int .i64 label, U, M] 44) = wb at *
      have HC := fun (w9 : World) (hb : Below wb.heap.size wb w9) j => (show w9.cell? ⟨w.heap.size, j, none⟩ = #[.int .i64 73, .int .i64 d, .int .i64 a, .int .i64 b, .int .i64 imm, .int .i64 label, U, M][j]? by rw [Lib.cell_of_heap ((hb.block _ hz).trans hr)])
      have hr0 := hr
      have HC := fun j => HC wb (Below.refl _ _) j
      have c0 := HC 0
      have c1 := HC 1
      have c4 := HC 4
      simp only [List.getElem?_toArray, List.getElem?_cons_zero, List.getElem?_cons_succ] at c0 c1 c4
      have hzb := hbx.size
      clear HC hr
      go_wp2_with (at_builtin
                   refine wpList_push rfl (.tmp 12) (.tmp 19) _ rfl w.heap.size 49 item_info Tryd.underlying28 rfl (by decide) #[.int .i64 5, .int .i64 0, .int .i64 25, .int .i64 0, .int .i64 0, .int .i64 0, .string ⟨#[109, 111, 114, 101]⟩, .int .u32 (imm - 1024)] (.slice none 0 0) 0 [] rfl (World.ownsRow_nil _ _ _ _) rfl rfl rfl (by simp [Value.oneCell']) (by simp [maxLen]) (by simp) hzb ?_
                   intro v' w7 ho7 hg7 hb7 _
                   obtain ⟨A7, c7, rfl⟩ := ownsRow_form ho7
                   have hr7 := (hg7.block w.heap.size hz (by simp [Value.ownBlock])).trans hr0
                   have HC7 := fun j => (show w7.cell? ⟨w.heap.size, j, none⟩ = #[.int .i64 73, .int .i64 d, .int .i64 a, .int .i64 b, .int .i64 imm, .int .i64 label, U, M][j]? by rw [Lib.cell_of_heap hr7])
                   have d0 := HC7 0
                   have d1 := HC7 1
                   have d4 := HC7 4
                   simp only [List.getElem?_toArray, List.getElem?_cons_zero, List.getElem?_cons_succ] at d0 d1 d4
                   have Ho7 := Lib.hid ho7
                   have Hb7 := Lib.hid (hbx.trans hb7)
                   clear ho7 hg7 hb7 HC7 hr7)
      refine (r_iInst 24 d 25 0 0 _).mono ?_
      rintro e w3 ⟨rfl, hb3⟩
      have Hb3 := Lib.hid (Hb7.out.trans (hb3.mono Hb7.out.size))
      have Ho3 := Lib.hid (ownsRow_below Ho7.out hb3)
      have hz3 := Hb3.out.size
      unfold itemV S.iInst S.noLab
      clear d0 d1 d4 hb3
      go_wp2_with (at_builtin
                   refine wpList_push rfl (.tmp 24) (.tmp 30) _ rfl w.heap.size 49 item_info Tryd.underlying28 rfl (by decide) #[.int .i64 1, .int .i64 24, .int .i64 d, .int .i64 25, .int .i64 0, .int .i64 0, .string ⟨#[]⟩, .int .u32 0] _ _ _ rfl Ho3.out rfl rfl rfl (by simp [Value.oneCell']) (by simp [maxLen]) (by simp) hz3 ?_
                   intro v' w7 ho7 hg7 hb7 _
                   obtain ⟨A9, c9, rfl⟩ := ownsRow_form ho7)
      go_ret
      exact ⟨A9, c9, rfl, ho7, Hb3.out.trans hb7⟩
    · go_enter Tryd.func63, Tryd.ntmps63
      go_upto_region 1 with fail
      generalize w.alloc (.cells #[.int .i64 74, .int .i64 d, .int .i64 a, .int .i64 b, .int .i64 imm, .int .i64 label, U, M] 44) = wb at *
      have HC := fun (w9 : World) (hb : Below wb.heap.size wb w9) j => (show w9.cell? ⟨w.heap.size, j, none⟩ = #[.int .i64 74, .int .i64 d, .int .i64 a, .int .i64 b, .int .i64 imm, .int .i64 label, U, M][j]? by rw [Lib.cell_of_heap ((hb.block _ hz).trans hr)])
      have hr0 := hr
      have HC := fun j => HC wb (Below.refl _ _) j
      have c0 := HC 0
      have c2 := HC 2
      have c4 := HC 4
      simp only [List.getElem?_toArray, List.getElem?_cons_zero, List.getElem?_cons_succ] at c0 c2 c4
      have hzb := hbx.size
      clear HC hr
      go_wp2_with (at_builtin
                   refine wpList_push rfl (.tmp 12) (.tmp 19) _ rfl w.heap.size 49 item_info Tryd.underlying28 rfl (by decide) #[.int .i64 5, .int .i64 0, .int .i64 25, .int .i64 0, .int .i64 0, .int .i64 0, .string ⟨#[109, 111, 114, 101]⟩, .int .u32 (imm - 1024)] (.slice none 0 0) 0 [] rfl (World.ownsRow_nil _ _ _ _) rfl rfl rfl (by simp [Value.oneCell']) (by simp [maxLen]) (by simp) hzb ?_
                   intro v' w7 ho7 hg7 hb7 _
                   obtain ⟨A7, c7, rfl⟩ := ownsRow_form ho7
                   have hr7 := (hg7.block w.heap.size hz (by simp [Value.ownBlock])).trans hr0
                   have HC7 := fun j => (show w7.cell? ⟨w.heap.size, j, none⟩ = #[.int .i64 74, .int .i64 d, .int .i64 a, .int .i64 b, .int .i64 imm, .int .i64 label, U, M][j]? by rw [Lib.cell_of_heap hr7])
                   have d0 := HC7 0
                   have d2 := HC7 2
                   have d4 := HC7 4
                   simp only [List.getElem?_toArray, List.getElem?_cons_zero, List.getElem?_cons_succ] at d0 d2 d4
                   have Ho7 := Lib.hid ho7
                   have Hb7 := Lib.hid (hbx.trans hb7)
                   clear ho7 hg7 hb7 HC7 hr7)
      refine (r_iInst 25 0 25 a 0 _).mono ?_
      rintro e w3 ⟨rfl, hb3⟩
      have Hb3 := Lib.hid (Hb7.out.trans (hb3.mono Hb7.out.size))
      have Ho3 := Lib.hid (ownsRow_below Ho7.out hb3)
      have hz3 := Hb3.out.size
      unfold itemV S.iInst S.noLab
      clear d0 d2 d4 hb3
      go_wp2_with (at_builtin
                   refine wpList_push rfl (.tmp 32) (.tmp 38) _ rfl w.heap.size 49 item_info Tryd.underlying28 rfl (by decide) #[.int .i64 1, .int .i64 25, .int .i64 0, .int .i64 25, .int .i64 a, .int .i64 0, .string ⟨#[]⟩, .int .u32 0] _ _ _ rfl Ho3.out rfl rfl rfl (by simp [Value.oneCell']) (by simp [maxLen]) (by simp) hz3 ?_
                   intro v' w7 ho7 hg7 hb7 _
                   obtain ⟨A9, c9, rfl⟩ := ownsRow_form ho7)
      go_ret
      exact ⟨A9, c9, rfl, ho7, Hb3.out.trans hb7⟩


end Go.Proofs.YtkdalaiponchbaaDoor
