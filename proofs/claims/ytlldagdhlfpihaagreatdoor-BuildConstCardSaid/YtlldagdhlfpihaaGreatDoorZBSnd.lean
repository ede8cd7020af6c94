/- Plain: what expressions' items do on a machine is what the conditions say. No program in sight. -/
import Derived.Test.YtlldagdhlfpihaaGreatDoorZBWp
set_option linter.unusedVariables false
set_option linter.unusedSimpArgs false
set_option linter.unusedSectionVars false
namespace Go.Proofs.YtlldagdhlfpihaaGreatDoor
open Go.RowKit

namespace S
/-- A machine within a routine's frame. -/
structure Fm (I : Img) (V st : Vw) (base lk : Int) (env ts : List Int) : Prop where
  mt : Mt I V st
  sp : V.reg 28 = base + env.length + 15
  fr : Fr V base lk env ts
/-- Where frames may be. -/
structure Cx (I : Img) (L dep lk base : Int) : Prop where
  ok : I.Ok
  lo : I.lo ≤ base
  top : base + L + 15 + dep ≤ I.hi
  dep0 : 0 ≤ dep
  L0 : 0 ≤ L
  L1 : L ≤ 200
  lk0 : 0 ≤ lk
  lk1 : lk < I.size
def OutE (I : Img) (V : Vw) (a b : Int) (c : Nat) (base lk : Int) (env ts : List Int) (Q : List Int → Vw → Nat → Prop) (H : Int → Vw → Nat → Prop) : Prop :=
  (∃ vs st' c' V', c ≤ c' ∧ Q vs st' c' ∧ Go I V a (c' - c) V' b ∧ Fm I V' st' base lk env (ts ++ vs) ∧ Kp I base V V') ∨
  (∃ code st' c' V', c ≤ c' ∧ H code st' c' ∧ GoH I V a (c' - c) V' code ∧ Mt I V' st')
end S

theorem vset_same (V : S.Vw) (d v : Int) : (V.set d v).reg d = v := by show (if d = d then v else _) = v; rw [if_pos rfl]
theorem vset_other (V : S.Vw) {d j : Int} (v : Int) (h : j ≠ d) : (V.set d v).reg j = V.reg j := by show (if j = d then v else _) = _; rw [if_neg h]
theorem vsto_same (V : S.Vw) (d v : Int) : (V.sto d v).mem d = v := by show (if d = d then v else _) = v; rw [if_pos rfl]
theorem vsto_other (V : S.Vw) {d j : Int} (v : Int) (h : j ≠ d) : (V.sto d v).mem j = V.mem j := by show (if j = d then v else _) = _; rw [if_neg h]

theorem S.Mt.hid {I : S.Img} {V st : S.Vw} (h : S.Mt I V st) {d : Int} (hd : S.visB d = false) (v : Int) : S.Mt I (V.set d v) st :=
  ⟨fun n hn => by
    rw [vset_other _ _ (fun e => by subst e; rw [hd] at hn; cases hn)]
    exact h.vis n hn, h.mem, h.inp, h.out⟩
theorem S.Mt.stack {I : S.Img} {V st : S.Vw} (h : S.Mt I V st) {p : Int} (hp : I.stk p) (v : Int) : S.Mt I (V.sto p v) st :=
  ⟨h.vis, fun a a0 a1 ha => by
    rw [vsto_other _ _ (fun e : a = p => ha (by rw [e]; exact hp))]
    exact h.mem a a0 a1 ha, h.inp, h.out⟩
theorem hid_at {k : Nat} (h : k < 14) : S.visB (11 + k) = false := by
  unfold S.visB
  rw [decide_eq_false_iff_not]
  omega
theorem getD_append_one (ts : List Int) (v : Int) (k : Nat) (h : k < (ts ++ [v]).length) : (ts ++ [v]).getD k 0 = if k = ts.length then v else ts.getD k 0 := by
  by_cases c : k = ts.length
  · subst c; simp
  · rw [if_neg c]
    have : k < ts.length := by simp at h; omega
    simp [List.getElem?_append_left this]
theorem getD_append_left (ts vs : List Int) (k : Nat) (h : k < ts.length) : (ts ++ vs).getD k 0 = ts.getD k 0 := by
  simp [List.getElem?_append_left h]
theorem getD_append_right (ts vs : List Int) (k : Nat) : (ts ++ vs).getD (ts.length + k) 0 = vs.getD k 0 := by
  simp [List.getElem?_append_right]
/-- A number is put behind what is reckoned. -/
theorem S.Fm.put {I : S.Img} {V st : S.Vw} {base lk : Int} {env ts vs : List Int} (h : S.Fm I V st base lk env (ts ++ vs)) (hk : ts.length < 14) (v : Int) : S.Fm I (V.set (11 + ts.length) v) st base lk env (ts ++ [v]) := by
  refine ⟨h.mt.hid (hid_at hk) v, by rw [vset_other _ _ (by omega)]; exact h.sp, h.fr.lk, h.fr.env, fun k hl => ?_⟩
  rw [getD_append_one ts v k hl]
  by_cases c : k = ts.length
  · subst c; rw [if_pos rfl, vset_same]
  · rw [if_neg c, vset_other _ _ (by omega)]
    have hlt : k < ts.length := by simp at hl; omega
    rw [h.fr.ts k (by simp; omega), getD_append_left ts vs k hlt]
/-- What lies above is nothing. -/
theorem S.Fm.over {I : S.Img} {V st : S.Vw} {base lk : Int} {env ts : List Int} (h : S.Fm I V st base lk env ts) {k : Nat} (hk : k < 14) (hk2 : ts.length ≤ k) (v : Int) : S.Fm I (V.set (11 + k) v) st base lk env ts :=
  ⟨h.mt.hid (hid_at hk) v, by rw [vset_other _ _ (by omega)]; exact h.sp, ⟨h.fr.lk, h.fr.env, fun j hj => by rw [vset_other _ _ (by omega)]; exact h.fr.ts j hj⟩⟩
theorem S.Fm.val {I : S.Img} {V st : S.Vw} {base lk : Int} {env ts vs : List Int} (h : S.Fm I V st base lk env (ts ++ vs)) {k : Nat} (hk : k < vs.length) : V.reg (11 + ts.length + k) = vs.getD k 0 := by
  have := h.fr.ts (ts.length + k) (by simp; omega)
  rw [getD_append_right] at this
  rw [← this]
  congr 1
  omega
theorem seg_len (fr L : Int) : (∀ k, (S.bStores fr L k).length = k) ∧ (∀ k, (S.bLoads fr L k).length = k) ∧ (∀ a k, (S.bArgs a k).length = k) := by
  refine ⟨fun k => ?_, fun k => ?_, fun a k => ?_⟩
  all_goals
    induction k with
    | zero => rfl
    | succ k ih => first | (rw [S.bStores, List.length_append, ih]; rfl) | (rw [S.bLoads, List.length_append, ih]; rfl) | (rw [S.bArgs, List.length_append, ih]; rfl)

section
variable {I : S.Img} {L dep lk base : Int} (cx : S.Cx I L dep lk base) {obj : ByteArray}
include cx
/-- A place of the frame. -/
theorem fr_place {V : S.Vw} {p : Int} (hsp : V.reg 28 = base + L + 15) (h0 : 0 ≤ p) (h1 : p < L + 15) : S.u32m (V.reg 28 + (p - (L + 15))) = base + p ∧ base + p < I.size ∧ ¬ I.code (base + p) ∧ I.stk (base + p) := by
  obtain ⟨ok, lo, top, dep0, _, _, _, _⟩ := cx
  have h2 := ok.lo0
  have h3 := ok.hisz
  have h4 := ok.size2
  refine ⟨?_, by omega, ?_, by omega, by omega⟩
  · rw [hsp]; unfold S.u32m; omega
  · rintro ⟨q0, q1⟩
    rcases ok.apart with h | h <;> omega
theorem go_bLoad {V : S.Vw} {i : Nat} {d p : Int} {r : List S.Item} (hs : S.Seg I obj i (S.bLoad (L + 15) d p :: r)) (hsp : V.reg 28 = base + L + 15) (h0 : 0 ≤ p) (h1 : p < L + 15) (hd : 0 < d) (hd2 : d ≤ 31) :
    S.Go I V (I.adr i) 1 (V.set d (V.mem (base + p))) (I.adr (i + 1)) := by
  obtain ⟨e1, e2, e3, e4⟩ := fr_place cx (V := V) hsp h0 h1
  exact go_lw cx.ok hs.lo hs.lt hs.head hd hd2 (by decide) e1.symm e2
theorem go_bStore {V : S.Vw} {i : Nat} {b p : Int} {r : List S.Item} (hs : S.Seg I obj i (S.bStore (L + 15) b p :: r)) (hsp : V.reg 28 = base + L + 15) (h0 : 0 ≤ p) (h1 : p < L + 15) (hb : 0 ≤ b ∧ b ≤ 31 ∧ b ≠ 25) :
    S.Go I V (I.adr i) 1 (V.sto (base + p) (V.reg b)) (I.adr (i + 1)) := by
  obtain ⟨e1, e2, e3, e4⟩ := fr_place cx (V := V) hsp h0 h1
  exact go_sw cx.ok hs.lo hs.lt hs.head (by decide) hb e1.symm e2 e3
theorem go_bMove {V : S.Vw} {i : Nat} {d a : Int} {r : List S.Item} (hs : S.Seg I obj i (S.bMove d a :: r)) (hd : 0 < d) (hd2 : d ≤ 31) (ha : 0 ≤ a ∧ a ≤ 31 ∧ a ≠ 25) : S.Go I V (I.adr i) 1 (V.set d (V.reg a)) (I.adr (i + 1)) :=
  go_move cx.ok hs.lo hs.lt hs.head hd hd2 ha

theorem go_stores {V : S.Vw} {i : Nat} (hsp : V.reg 28 = base + L + 15) : ∀ k : Nat, k ≤ 14 → S.Seg I obj i (S.bStores (L + 15) L k) → ∃ V', S.Go I V (I.adr i) k V' (I.adr (i + k)) ∧ V'.reg = V.reg ∧ (∀ j : Nat, j < k → V'.mem (base + 1 + L + j) = V.reg (11 + j)) ∧
    (∀ a : Int, a < base + 1 + L ∨ base + L + 15 ≤ a → V'.mem a = V.mem a) ∧ V'.inp = V.inp ∧ V'.out = V.out
  | 0, _, _ => ⟨V, go_refl _ _ _, rfl, fun j hj => by omega, fun _ _ => rfl, rfl, rfl⟩
  | k + 1, hk, hs => by
    obtain ⟨V1, h1, h2, h3, h4, h5, h6⟩ := go_stores hsp k (by omega) hs.left
    have hs2 := hs.right
    rw [(seg_len _ _).1] at hs2
    have hL := cx.L0
    have h7 := go_bStore cx (V := V1) hs2 (by rw [h2]; exact hsp) (p := 1 + L + k) (by omega) (by omega) (by omega)
    refine ⟨_, h1.trans h7, h2, fun j hj => ?_, fun a ha => ?_, h5, h6⟩
    · by_cases c : j = k
      · subst c
        have e : base + 1 + L + (j : Int) = base + (1 + L + j) := by omega
        rw [e, vsto_same, h2]
      · rw [vsto_other _ _ (by omega)]; exact h3 j (by omega)
    · rw [vsto_other _ _ (by omega)]; exact h4 a ha
theorem go_loads {V : S.Vw} {i : Nat} (hsp : V.reg 28 = base + L + 15) : ∀ k : Nat, k ≤ 14 → S.Seg I obj i (S.bLoads (L + 15) L k) → ∃ V', S.Go I V (I.adr i) k V' (I.adr (i + k)) ∧ V'.mem = V.mem ∧ (∀ j : Nat, j < k → V'.reg (11 + j) = V.mem (base + 1 + L + j)) ∧
    (∀ a : Int, a < 11 ∨ 11 + k ≤ a → V'.reg a = V.reg a) ∧ V'.inp = V.inp ∧ V'.out = V.out
  | 0, _, _ => ⟨V, go_refl _ _ _, rfl, fun j hj => by omega, fun _ _ => rfl, rfl, rfl⟩
  | k + 1, hk, hs => by
    obtain ⟨V1, h1, h2, h3, h4, h5, h6⟩ := go_loads hsp k (by omega) hs.left
    have hs2 := hs.right
    rw [(seg_len _ _).2.1] at hs2
    have hL := cx.L0
    have h7 := go_bLoad cx (V := V1) hs2 (by rw [h4 _ (by omega)]; exact hsp) (p := 1 + L + k) (by omega) (by omega) (by omega) (by omega)
    refine ⟨_, h1.trans h7, h2, fun j hj => ?_, fun a ha => ?_, h5, h6⟩
    · by_cases c : j = k
      · subst c
        have e : base + 1 + L + (j : Int) = base + (1 + L + j) := by omega
        rw [e, vset_same, h2]
      · rw [vset_other _ _ (by omega)]; exact h3 j (by omega)
    · rw [vset_other _ _ (by omega)]; exact h4 a (by omega)
theorem go_args {V : S.Vw} {i : Nat} {at_ : Nat} : ∀ k : Nat, k ≤ 4 → at_ + k ≤ 14 → S.Seg I obj i (S.bArgs at_ k) → ∃ V', S.Go I V (I.adr i) k V' (I.adr (i + k)) ∧ V'.mem = V.mem ∧ (∀ j : Nat, j < k → V'.reg (4 + j) = V.reg (11 + at_ + j)) ∧
    (∀ a : Int, a < 4 ∨ 4 + k ≤ a → V'.reg a = V.reg a) ∧ V'.inp = V.inp ∧ V'.out = V.out
  | 0, _, _, _ => ⟨V, go_refl _ _ _, rfl, fun j hj => by omega, fun _ _ => rfl, rfl, rfl⟩
  | k + 1, hk, hk2, hs => by
    obtain ⟨V1, h1, h2, h3, h4, h5, h6⟩ := go_args k (by omega) (by omega) hs.left
    have hs2 := hs.right
    rw [(seg_len 0 0).2.2] at hs2
    have h7 := go_bMove cx (V := V1) hs2 (by omega) (by omega) (by omega)
    refine ⟨_, h1.trans h7, h2, fun j hj => ?_, fun a ha => ?_, h5, h6⟩
    · by_cases c : j = k
      · subst c
        rw [vset_same, h4 _ (by omega)]
      · rw [vset_other _ _ (by omega)]; exact h3 j (by omega)
    · rw [vset_other _ _ (by omega)]; exact h4 a (by omega)
/-- A number. -/
theorem go_const {V : S.Vw} {i : Nat} {d n : Int} {r : List S.Item} (hs : S.Seg I obj i (S.bConst d n ++ r)) (hn : -2147483648 ≤ n ∧ n ≤ 4294967295) (hd : 0 < d) (hd2 : d ≤ 24) :
    S.Go I V (I.adr i) 2 (V.set d (n % 4294967296)) (I.adr (i + (S.bConst d n).length)) := go_if fun m hm => by
  unfold S.bConst at hs ⊢
  by_cases c : -32768 ≤ n ∧ n < 32768
  · rw [if_pos c] at hs ⊢
    have h := go_addi cx.ok hs.lo hs.lt (V := V) hs.head hd (by omega) (by decide)
    have e : S.u32m (V.reg 0 + n) = n % 4294967296 := by rw [hm.zero]; unfold S.u32m; omega
    rw [e] at h
    exact h.more (by decide)
  · rw [if_neg c] at hs ⊢
    have h := go_lui cx.ok hs.lo hs.lt (V := V) hs.head hd (by omega) (by omega)
    have h2 := go_imm cx.ok hs.tail.lo hs.tail.lt (V := V.set d (n % 4294967296 / 65536 * 65536)) hs.tail.head (by decide) hd (by omega) (by omega)
    have e : S.alu (S.like 17) ((V.set d (n % 4294967296 / 65536 * 65536)).reg d) (S.u32m (n % 4294967296 % 65536)) = n % 4294967296 := by
      have e1 : S.u32m (n % 4294967296 % 65536) = n % 4294967296 % 65536 := by unfold S.u32m; omega
      rw [vset_same, e1]
      exact word16 (by omega) (by omega)
    rw [e] at h2
    refine (h.trans h2).ext (fun j _ _ _ => ?_) (fun _ _ _ => rfl) rfl rfl
    by_cases c2 : j = d
    · subst c2; rw [vset_same, vset_same]
    · rw [vset_other _ _ c2, vset_other _ _ c2, vset_other _ _ c2]

/-- One operation, its operands being reckoned. -/
theorem sound_Op {V st : S.Vw} {env ts vs : List Int} {op n : Int} {name : ByteArray} {kids : Nat} {i c : Nat} {Q : Int → S.Vw → Nat → Prop} {H : Int → S.Vw → Nat → Prop} (hL : (env.length : Int) = L) (hop : S.headE L op n name kids = true)
    (hat : ts.length + max 1 kids ≤ 14) (hvs : vs.length = kids) (hw : S.wpOp I dep lk op n name ts.length env vs st c Q H) (hs : S.Seg I obj i (S.bOp (L + 15) L op n name kids ts.length)) (hV : S.Fm I V st base lk env (ts ++ vs)) :
    S.OutE I V (I.adr i) (I.adr (i + (S.bOp (L + 15) L op n name kids ts.length).length)) c base lk env ts (fun us st' c' => ∃ v, us = [v] ∧ Q v st' c') H := by
  have hL0 := cx.L0
  have hk14 : ts.length < 14 := by omega
  have hsp : V.reg 28 = base + L + 15 := by rw [← hL]; exact hV.sp
  unfold S.headE at hop
  simp only [Bool.and_eq_true, decide_eq_true_eq] at hop
  obtain ⟨⟨⟨⟨hr, hn⟩, hkk⟩, hnm⟩, hlb⟩ := hop
  unfold S.wpOp at hw
  unfold S.bOp at hs ⊢
  unfold S.numE at hn
  -- a value that is put where it belongs
  have fin : ∀ (v : Int) (k : Nat) (b : Int), S.Go I V (I.adr i) k (V.set (11 + (ts.length : Int)) v) b → Q v st (c + k) → S.OutE I V (I.adr i) b c base lk env ts (fun us st' c' => ∃ v, us = [v] ∧ Q v st' c') H := fun v k b hg hq =>
    .inl ⟨[v], st, c + k, _, by omega, ⟨v, rfl, hq⟩, by rw [Nat.add_sub_cancel_left]; exact hg, hV.put hk14 v, fun _ _ _ => rfl⟩
  by_cases c1 : op = 1
  · rw [if_pos c1] at hw hs hn ⊢
    have hn' := of_decide_eq_true hn
    have h := go_const cx (V := V) (r := []) (by rw [List.append_nil]; exact hs) hn' (d := 11 + ts.length) (by omega) (by omega)
    exact fin _ 2 _ h hw
  rw [if_neg c1] at hw hs hn ⊢
  by_cases c2 : op = 2
  · rw [if_pos c2] at hw hs hn ⊢
    have hn' := of_decide_eq_true hn
    have h := go_bLoad cx (V := V) hs hsp (by omega) (by omega) (by omega) (by omega)
    have e : V.mem (base + (1 + n)) = env.getD n.toNat 0 := by
      have := hV.fr.env n.toNat (by omega)
      rw [← this]
      congr 1
      omega
    rw [e] at h
    exact fin _ 1 _ h hw
  rw [if_neg c2] at hw hs hn ⊢
  by_cases c3 : op = 3
  · rw [if_pos c3] at hw hs hn ⊢
    have hvis := vis_hi hn
    have h := go_bMove cx (V := V) hs (by omega) (by omega) (by omega)
    rw [hV.mt.vis n hn] at h
    exact fin _ 1 _ h hw
  rw [if_neg c3] at hw hs hn ⊢
  by_cases c4 : op = 4
  · rw [if_pos c4] at hw hs hn ⊢
    have hn' := of_decide_eq_true hn
    have hk2 : kids = 2 := by rw [hkk]; unfold S.kidsE; rw [if_pos (.inl c4)]
    have v0 := hV.val (k := 0) (by omega)
    have v1 := hV.val (k := 1) (by omega)
    have e0 : V.reg (11 + ts.length) = vs.getD 0 0 := by simpa using v0
    have e1 : V.reg (12 + ts.length) = vs.getD 1 0 := by
      rw [← v1]; congr 1; omega
    have h := go_alu cx.ok hs.lo hs.lt (V := V) hs.head (by omega) (by omega) (by omega) (by omega) (by omega) (fun q => hw.1 (by rw [← e1]; exact q))
    rw [e0, e1] at h
    exact fin _ 1 _ h hw.2
  rw [if_neg c4] at hw hs hn ⊢
  by_cases c5 : op = 5
  · rw [if_pos c5] at hw hs hn ⊢
    have hk1 : kids = 1 := by rw [hkk]; unfold S.kidsE; rw [if_neg (by omega), if_pos c5]
    have v0 := hV.val (k := 0) (by omega)
    have e0 : V.reg (11 + ts.length) = vs.getD 0 0 := by simpa using v0
    obtain ⟨w1, w2, w3⟩ := hw
    have h := go_lw cx.ok hs.lo hs.lt (V := V) hs.head (p := S.u32m (vs.getD 0 0 + n)) (by omega) (by omega) (by omega) (by rw [e0]) w1
    rw [hV.mt.mem _ (u32_bd _).1 w1 w2] at h
    exact fin _ 1 _ h w3
  rw [if_neg c5] at hw hs hn ⊢
  by_cases c6 : op = 6
  · rw [if_pos c6] at hw hs ⊢
    have hkid : kids ≤ 4 := by rw [hkk]; unfold S.kidsE; rw [if_neg (by omega), if_neg c5, if_pos c6]; omega
    have hlab : S.labB name = true := by
      have : S.namedE op = true := by unfold S.namedE; rw [decide_eq_true_eq]; exact .inl c6
      rw [this] at hlb
      simpa using hlb
    obtain ⟨d, R, hR, hd, hQ⟩ := hw
    unfold S.bCall at hs ⊢
    -- the registers are saved
    obtain ⟨V1, g1, r1, m1, k1, i1, o1⟩ := go_stores cx hsp ts.length (by omega) hs.left.left.left.left
    have hs2 := hs.left.left.left.right
    rw [(seg_len _ _).1] at hs2
    obtain ⟨V2, g2, m2, a2, r2, i2, o2⟩ := go_args cx (V := V1) kids hkid (by omega) hs2
    have hs3 := hs.left.left.right
    rw [List.length_append, (seg_len _ _).1, (seg_len (L + 15) L).2.2] at hs3
    have hs3h : I.xs[i + (ts.length + kids)]? = some ⟨4, ⟨0, 31, 0, 0, 0⟩, name, 0⟩ := by
      have := hs3.head
      show _ = _
      rw [this]
      show some (⟨4, ⟨0, 31, 0, 0, 0⟩, S.owned obj name, 0⟩ : S.Item) = _
      rw [owned_no obj hlab]
    have g3 := go_jumpD cx.ok hs3.lo hs3.lt (V := V2) hs3h (by decide) (by decide)
    have hret : 0 ≤ I.adr (i + (ts.length + kids) + 1) ∧ I.adr (i + (ts.length + kids) + 1) < I.size := by
      have h1 := img_0 cx.ok (i + (ts.length + kids) + 1)
      have h2 := img_le cx.ok (i := i + (ts.length + kids) + 1) (j := I.xs.length) (by have := hs3.lt; have := cx.ok.i1l; omega)
      have h3 := cx.ok.size
      omega
    have hmt : S.Mt I (V2.set 31 (I.adr (i + (ts.length + kids) + 1))) (st.args vs) := by
      refine (S.Mt.hid (V := V2) ⟨fun j hj => ?_, fun a a0 a1 ha => ?_, by rw [i2, i1]; exact hV.mt.inp, by rw [o2, o1]; exact hV.mt.out⟩ (by decide) _)
      · show V2.reg j = if 4 ≤ j ∧ j < 4 + (vs.length : Int) then vs.getD (j - 4).toNat 0 else st.reg j
        by_cases cj : 4 ≤ j ∧ j < 4 + (vs.length : Int)
        · rw [if_pos cj]
          have e := a2 (j - 4).toNat (by omega)
          have e2 := hV.val (k := (j - 4).toNat) (by omega)
          rw [r1] at e
          rw [← e2, ← e]
          congr 1
          omega
        · rw [if_neg cj, r2 j (by omega), r1]
          exact hV.mt.vis j hj
      · rw [m2, k1 a ?_]
        · exact hV.mt.mem a a0 a1 ha
        · have := cx.lo
          have := cx.top
          have := cx.dep0
          rcases Int.lt_or_le a (base + 1 + L) with q | q
          · exact .inl q
          · right
            by_cases q2 : a < base + L + 15
            · exact absurd ⟨by omega, by omega⟩ ha
            · omega
    have hsp3 : (V2.set 31 (I.adr (i + (ts.length + kids) + 1))).reg 28 = base + L + 15 := by
      rw [vset_other _ _ (by decide), r2 _ (by omega), r1]; exact hsp
    obtain ⟨o, k, hRo, hD⟩ := hR _ (base + L + 15) _ hmt hsp3 (vset_same _ _ _) hret.1 hret.2 (by have := cx.lo; omega) (by have := cx.top; omega)
    have hQo := hQ _ o k hRo
    have g0 : S.Go I V (I.adr i) (ts.length + kids + 3) (V2.set 31 (I.adr (i + (ts.length + kids) + 1))) (I.lab name) := (g1.trans (by rw [Nat.add_assoc] at g2; exact g2)).trans g3
    cases o with
    | left tq st2 => exact absurd hQo id
    | halt code st2 =>
      obtain ⟨V4, g4, mt4⟩ := hD
      refine .inr ⟨code, st2, _, V4, ?_, hQo, ?_, mt4⟩
      · omega
      · refine (g0.halt g4).more ?_
        rw [hvs]
        omega
    | ret st2 =>
      obtain ⟨V4, g4, mt4, sp4, kp4⟩ := hD
      have g4' : S.Go I (V2.set 31 (I.adr (i + (ts.length + kids) + 1))) (I.lab name) k V4 (I.adr (i + (ts.length + kids) + 1)) := g4
      have hs5 := hs.left.right
      rw [List.length_append, List.length_append, (seg_len _ _).1, (seg_len (L + 15) L).2.2] at hs5
      have e5 : i + (ts.length + kids + [S.bJ 31 name].length) = i + (ts.length + kids) + 1 := rfl
      rw [e5] at hs5
      obtain ⟨V5, g5, m5, a5, r5, i5, o5⟩ := go_loads cx (V := V4) sp4 ts.length (by omega) hs5
      have hs6 := hs.right
      rw [List.length_append, List.length_append, List.length_append, (seg_len _ _).1, (seg_len (L + 15) L).2.2, (seg_len (L + 15) L).2.1] at hs6
      have e6 : i + (ts.length + kids + [S.bJ 31 name].length + ts.length) = i + (ts.length + kids) + 1 + ts.length := by simp; omega
      rw [e6] at hs6
      have g6 := go_bMove cx (V := V5) hs6 (by omega) (by omega) (by decide)
      have hv : V5.reg 4 = st2.reg 4 := by rw [r5 4 (by omega)]; exact mt4.vis 4 (by decide)
      rw [hv] at g6
      have hml : ∀ a, I.lo ≤ a → a < base + L + 15 → V5.mem a = V1.mem a := fun a a0 a1 => by
        rw [m5, kp4 a a0 a1]
        show V2.mem a = _
        rw [m2]
      have hlo := cx.lo
      have hFm : S.Fm I V5 st2 base lk env (ts ++ []) := by
        refine ⟨⟨fun j hj => ?_, fun a a0 a1 ha => by rw [m5]; exact mt4.mem a a0 a1 ha, by rw [i5]; exact mt4.inp, by rw [o5]; exact mt4.out⟩, ?_, ?_, ?_, ?_⟩
        · have := vis_hi hj
          rw [r5 j (by omega)]
          exact mt4.vis j hj
        · rw [r5 28 (by omega), sp4, hL]
        · rw [hml base hlo (by omega), k1 base (by omega)]; exact hV.fr.lk
        · intro k2 hk2
          rw [hml _ (by omega) (by omega), k1 _ (by omega)]; exact hV.fr.env k2 hk2
        · intro k2 hk2
          rw [List.append_nil] at hk2 ⊢
          rw [a5 k2 hk2, ← m5, hml _ (by omega) (by omega), m1 k2 hk2, hV.fr.ts k2 (by simp; omega), getD_append_left ts vs k2 hk2]
      refine .inl ⟨[st2.reg 4], st2, _, _, ?_, ⟨_, rfl, hQo⟩, ?_, hFm.put hk14 _, fun a a0 a1 => ?_⟩
      · omega
      · have gg := ((g0.trans g4').trans g5).trans g6
        have el : i + (S.bStores (L + 15) L ts.length ++ S.bArgs ts.length kids ++ [S.bJ 31 name] ++ S.bLoads (L + 15) L ts.length ++ [S.bMove (11 + ↑ts.length) 4]).length = i + (ts.length + kids) + 1 + ts.length + 1 := by
          simp only [List.length_append, (seg_len (L + 15) L).1, (seg_len (L + 15) L).2.1, (seg_len (L + 15) L).2.2, List.length_cons, List.length_nil]
          omega
        rw [el]
        refine gg.more ?_
        rw [hvs]
        omega
      · show V5.mem a = V.mem a
        rw [hml a a0 (by omega), k1 a (by omega)]
  rw [if_neg c6] at hw hs ⊢
  by_cases c7 : op = 7
  · rw [if_pos c7] at hw hs ⊢
    have hk2 : kids = 2 := by rw [hkk]; unfold S.kidsE; rw [if_pos (.inr c7)]
    have v0 := hV.val (k := 0) (by omega)
    have v1 := hV.val (k := 1) (by omega)
    have e0 : V.reg (11 + ts.length) = vs.getD 0 0 := by simpa using v0
    have e1 : V.reg (12 + ts.length) = vs.getD 1 0 := by
      rw [← v1]; congr 1; omega
    obtain ⟨v, hv⟩ : ∃ v : Int, v = if vs.getD 0 0 = vs.getD 1 0 then 1 else 0 := ⟨_, rfl⟩
    have g : S.Go I V (I.adr i) 3 ((V.set (11 + ts.length) v).set (11 + (ts.length + 1 : Nat)) 1) (I.adr (i + 3)) := go_if fun m hm => by
      have b0 := hm.rbd (j := 11 + ts.length) (by omega) (by omega) (by omega)
      have b1 := hm.rbd (j := 12 + ts.length) (by omega) (by omega) (by omega)
      have hs1 := hs.left.left
      have g1 := go_alu cx.ok hs1.lo hs1.lt (V := V) hs1.head (by decide) (by omega) (by omega) (by omega) (by omega) (fun _ => by decide)
      have hs2 := hs.left.right
      have g2 := go_addi cx.ok hs2.lo hs2.lt (V := V.set (11 + ts.length) (S.alu 9 (V.reg (11 + ts.length)) (V.reg (12 + ts.length)))) (d := 12 + ts.length) (a := 0) (n := 1) hs2.head (by omega) (by omega) (by decide)
      have ez : S.u32m ((V.set (11 + ts.length) (S.alu 9 (V.reg (11 + ts.length)) (V.reg (12 + ts.length)))).reg 0 + 1) = 1 := by
        rw [vset_other _ _ (by omega), hm.zero]; decide
      rw [ez] at g2
      have hs3 := hs.right
      have g3 := go_alu cx.ok hs3.lo hs3.lt (V := (V.set (11 + ts.length) (S.alu 9 (V.reg (11 + ts.length)) (V.reg (12 + ts.length)))).set (12 + ts.length) 1) hs3.head (by decide) (by omega) (by omega) (by omega) (by omega) (fun _ => by decide)
      have ev : S.alu 14 (((V.set (11 + ts.length) (S.alu 9 (V.reg (11 + ts.length)) (V.reg (12 + ts.length)))).set (12 + ts.length) 1).reg (11 + ts.length)) (((V.set (11 + ts.length) (S.alu 9 (V.reg (11 + ts.length)) (V.reg (12 + ts.length)))).set (12 + ts.length) 1).reg (12 + ts.length)) = v := by
        rw [vset_same, vset_other _ _ (by omega), vset_same, e0, e1, hv]
        rw [e0] at b0
        rw [e1] at b1
        show S.truth (bits .xor .u32 (vs.getD 0 0) (vs.getD 1 0) < 1) = _
        rw [u32_xor b0.1 b0.2 b1.1 b1.2]
        unfold S.truth
        by_cases ce : vs.getD 0 0 = vs.getD 1 0
        · rw [if_pos ce, ce, if_pos (by simp)]
        · rw [if_neg ce, if_neg]
          intro q
          have q0 : (vs.getD 0 0).toNat ^^^ (vs.getD 1 0).toNat = 0 := by omega
          have q1 : (vs.getD 0 0).toNat = (vs.getD 1 0).toNat := by
            have := congrArg (· ^^^ (vs.getD 1 0).toNat) q0
            simpa [Nat.xor_assoc] using this
          omega
      rw [ev] at g3
      refine ((g1.trans g2).trans g3).ext (fun j _ _ _ => ?_) (fun _ _ _ => rfl) rfl rfl
      by_cases j1 : j = 11 + (ts.length : Int)
      · subst j1
        rw [vset_same, vset_other _ _ (by omega), vset_same]
      · rw [vset_other _ _ j1]
        by_cases j2 : j = 11 + ((ts.length + 1 : Nat) : Int)
        · have e12 : j = 12 + (ts.length : Int) := by omega
          rw [j2, vset_same, ← j2, e12, vset_same]
        · rw [vset_other _ _ (by omega), vset_other _ _ j1, vset_other _ _ j2, vset_other _ _ j1]
    refine .inl ⟨[v], st, c + 3, _, by omega, ⟨v, rfl, by rw [hv]; exact hw⟩, by rw [Nat.add_sub_cancel_left]; exact g, (hV.put hk14 v).over (by omega) (by simp) 1, fun _ _ _ => rfl⟩
  rw [if_neg c7] at hw hs ⊢
  by_cases c8 : op = 8
  · rw [if_pos c8] at hw hs ⊢
    have g := go_in cx.ok hs.lo hs.lt (V := V) hs.head (by omega) (by omega)
    have hV' : S.Fm I { V with inp := V.inp.tail } { st with inp := st.inp.tail } base lk env (ts ++ vs) :=
      ⟨⟨hV.mt.vis, hV.mt.mem, by show V.inp.tail = st.inp.tail; rw [hV.mt.inp], hV.mt.out⟩, hV.sp, ⟨hV.fr.lk, hV.fr.env, hV.fr.ts⟩⟩
    obtain ⟨v, hv⟩ : ∃ v : Int, v = S.inByte V.inp := ⟨_, rfl⟩
    rw [← hv] at g
    rw [← hV.mt.inp] at hw hV'
    rw [← hv] at hw
    exact .inl ⟨[v], _, c + 1, _, by omega, ⟨v, rfl, hw⟩, by rw [Nat.add_sub_cancel_left]; exact g, hV'.put hk14 v, fun _ _ _ => rfl⟩
  rw [if_neg c8] at hw hs ⊢
  by_cases c9 : op = 9
  · rw [if_pos c9] at hw hs ⊢
    have hlab : S.labB name = true := by
      have : S.namedE op = true := by unfold S.namedE; rw [decide_eq_true_eq]; exact .inr c9
      rw [this] at hlb
      simpa using hlb
    have hh : I.xs[i]? = some ⟨5, ⟨0, 11 + ts.length, 0, 0, 0⟩, name, 0⟩ := by
      rw [hs.head]
      show some (⟨5, ⟨0, 11 + ts.length, 0, 0, 0⟩, S.owned obj name, 0⟩ : S.Item) = _
      rw [owned_no obj hlab]
    have g := go_addr cx.ok hs.lo hs.lt (V := V) hh (by omega) (by omega) (by omega)
    exact fin _ 2 _ g hw
  rw [if_neg c9] at hw hs ⊢
  by_cases c10 : op = 10
  · rw [if_pos c10] at hw hs ⊢
    have h := go_bLoad cx (V := V) hs hsp (by omega) (by omega) (by omega) (by omega)
    have e : V.mem (base + 0) = lk := by rw [Int.add_zero]; exact hV.fr.lk
    rw [e] at h
    exact fin _ 1 _ h hw
  rw [if_neg c10] at hw
  exact absurd hw id
end

end Go.Proofs.YtlldagdhlfpihaaGreatDoor
