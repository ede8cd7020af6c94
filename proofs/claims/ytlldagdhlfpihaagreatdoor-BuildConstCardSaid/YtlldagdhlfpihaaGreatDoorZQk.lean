/- The interpreter: calls that a table tells; trees of routines; layer 25's closed laws. -/
import Derived.Test.YtlldagdhlfpihaaGreatDoorZBMsP
import Derived.Test.YtlldagdhlfpihaaGreatDoorZBLwN
import Derived.KernelRfl
set_option linter.unusedVariables false
set_option linter.unusedSimpArgs false
set_option linter.unusedSectionVars false
namespace Go.Proofs.YtlldagdhlfpihaaGreatDoor
open Go.RowKit

namespace S
mutual
def AV.beq : AV → AV → Bool
  | .int k n, .int k' n' => decide (k = k') && decide (n = n')
  | .bool b, .bool b' => decide (b = b')
  | .str s, .str s' => decide (s.data.toList = s'.data.toList)
  | .fn f, .fn f' => Nat.beq f f'
  | .row n cs, .row n' cs' => Nat.beq n n' && AV.beqs cs cs'
  | .agg cs, .agg cs' => AV.beqs cs cs'
  | .tup cs, .tup cs' => AV.beqs cs cs'
  | _, _ => false
def AV.beqs : List AV → List AV → Bool
  | [], [] => true
  | x :: r, y :: s => AV.beq x y && AV.beqs r s
  | _, _ => false
end
def tabA (tab : List (FuncId × List AV × AV)) (f : FuncId) (xs : List AV) : Option (AV × Tail) := match tab with
  | [] => none
  | (g, ys, r) :: t => if (Nat.beq f g && AV.beqs xs ys) = true then some (r, none) else tabA t f xs
def orcC (f : FuncId) (xs : List AV) : Option (AV × Tail) :=
  if f = 21 then (match xs with | [x] => (match decR x with | some r => some (.int .i64 (chkB r), none) | none => none) | _ => none)
  else if f = 47 then (match xs with | [x] => (match decR x with | some r => some (.int .i64 (frameB r), none) | none => none) | _ => none) else orcB f xs
def orcT (tab : List (FuncId × List AV × AV)) (f : FuncId) (xs : List AV) : Option (AV × Tail) := match tabA tab f xs with
  | some r => some r
  | none => orcC f xs
mutual
def encE : BE → List AV
  | .mk op n name kids => [.int .i64 op, .int .i64 n, .str name, .row kids.length (encEs kids)]
def encEs : List BE → List AV
  | [] => []
  | e :: r => encE e ++ encEs r
end
mutual
def encS : BS → List AV
  | .mk op n name exprs regs body els => [.int .i64 op, .int .i64 n, .str name, .row exprs.length (encEs exprs), .row regs.length (regs.map fun x => .int .i64 x), .row body.length (encSs body), .row els.length (encSs els)]
def encSs : List BS → List AV
  | [] => []
  | s :: r => encS s ++ encSs r
end
def encR (r : BR) : AV := .agg [.str r.name, .int .i64 r.params, .int .i64 r.locals, .bool r.behind, .row r.body.length (encSs r.body)]
end S

mutual
theorem av_beq : ∀ (x y : S.AV), S.AV.beq x y = true → x = y
  | .int k n, y, h => by
    cases y <;> simp [S.AV.beq] at h
    obtain ⟨rfl, rfl⟩ := h
    rfl
  | .bool b, y, h => by
    cases y <;> simp [S.AV.beq] at h
    subst h
    rfl
  | .str s, y, h => by
    cases y <;> simp [S.AV.beq] at h
    rename_i s'
    congr
    cases s
    cases s'
    congr
  | .fn f, y, h => by
    cases y <;> simp [S.AV.beq] at h
    subst h
    rfl
  | .row n cs, y, h => by
    cases y <;> simp [S.AV.beq] at h
    obtain ⟨rfl, h⟩ := h
    rw [av_beqs cs _ h]
  | .agg cs, y, h => by
    cases y <;> simp [S.AV.beq] at h
    rw [av_beqs cs _ h]
  | .tup cs, y, h => by
    cases y <;> simp [S.AV.beq] at h
    rw [av_beqs cs _ h]
  | .box _ _, y, h => by cases y <;> simp [S.AV.beq] at h
  | .ptr _ _, y, h => by cases y <;> simp [S.AV.beq] at h
  | .any, y, h => by cases y <;> simp [S.AV.beq] at h
theorem av_beqs : ∀ (xs ys : List S.AV), S.AV.beqs xs ys = true → xs = ys
  | [], [], _ => rfl
  | [], _ :: _, h => by simp [S.AV.beqs] at h
  | _ :: _, [], h => by simp [S.AV.beqs] at h
  | x :: r, y :: s, h => by
    simp only [S.AV.beqs, Bool.and_eq_true] at h
    rw [av_beq x y h.1, av_beqs r s h.2]
end
theorem tab_sound {P : Program} {W : World → Prop} : ∀ {tab : List (FuncId × List S.AV × S.AV)}, (∀ p ∈ tab, AFn P W p.1 p.2.1 p.2.2 none) → ∀ f xs r y, S.tabA tab f xs = some (r, y) → AFn P W f xs r y
  | [], _, f, xs, r, y, h => by simp [S.tabA] at h
  | (g, ys, q) :: t, ht, f, xs, r, y, h => by
    unfold S.tabA at h
    split at h
    · rename_i hh
      rw [Bool.and_eq_true] at hh
      cases h
      rw [Nat.eq_of_beq_eq_true hh.1, av_beqs _ _ hh.2]
      exact ht _ List.mem_cons_self
    · exact tab_sound (fun p hp => ht p (List.mem_cons_of_mem _ hp)) f xs r y h
theorem orcC_sound (f : FuncId) (xs : List S.AV) (r : S.AV) (y : S.Tail) (h : S.orcC f xs = some (r, y)) : AFn Tryz.prog LVE f xs r y := by
  have one : ∀ {f : FuncId} {x : S.AV} {br : S.BR} {n : Int}, S.decR x = some br → (∀ (A : Option Addr) (c : Nat) (w : World), RAt2 w w.heap.size br A → Calls Tryz.prog f #[rVal br A c] w fun e w' => e = .returned (.int .i64 n) ∧ Below w.heap.size w w') → AFn Tryz.prog LVE f [x] (.int .i64 n) none := fun hd hc H w vs hbnd hL hrep => by
    rw [RepT] at hrep
    obtain ⟨v, us, rfl, hv, hus⟩ := hrep
    rw [RepT] at hus
    subst hus
    obtain ⟨A, c, rfl, hat⟩ := decR_at hbnd hd hv
    refine (hc A c w hat).mono ?_
    rintro e w' ⟨rfl, hb⟩
    exact ⟨_, H, rfl, hb, fun _ _ => rfl, fun b k hk => Nat.lt_of_lt_of_le (hbnd b k hk) hb.size, by rw [RepV], fun z hz => by cases hz⟩
  unfold S.orcC at h
  split at h
  · rename_i hf
    subst hf
    split at h
    · split at h
      · rename_i x br hd
        cases h
        exact one hd fun A c w hat => b_Check br A c w hat
      · cases h
    · cases h
  · split at h
    · rename_i hf
      subst hf
      split at h
      · split at h
        · rename_i x br hd
          cases h
          exact one hd fun A c w hat => b_Frame br A c w hat
        · cases h
      · cases h
    · exact orcB_sound f xs r y h
/-- The same, some calls being told by a table. -/
theorem run_tab {tab : List (FuncId × List S.AV × S.AV)} (ht : ∀ p ∈ tab, AFn Tryz.prog LVE p.1 p.2.1 p.2.2 none) {cf n : Nat} {f : FuncId} {xs : List S.AV} {r : S.AV} {y : S.Tail} (h : S.runFn Tryz.prog (S.orcT tab) cf n f xs = some (r, y)) : AFn Tryz.prog LVE f xs r y :=
  fn_sound (fun w w' hL hb => hL.on hb) (fun f xs r y h => by
    unfold S.orcT at h
    split at h
    · rename_i q hq
      cases h
      exact tab_sound ht f xs r y hq
    · exact orcC_sound f xs r y h) n f xs r y h

/-- What layer 25's answer comes back with. -/
theorem answer_fn {x : S.AV} {r : S.BR} {n v : Int} (hd : S.decR x = some r) (hk : AnsOk r) (hn : 0 ≤ n ∧ n ≤ 4294967295)
    (hreal : ∀ (I : S.Img) (i : Nat), I.Ok → S.Seg I r.name i (S.bItems r) → ∀ st : S.Vw, st.reg 4 = n → ∃ d R, d ≤ 1000 ∧ S.Real I r.name r.behind st d R ∧ ∀ ret o k, R ret o k → ∃ st', o = .ret st' ∧ k ≤ 99000 ∧ st'.reg 4 = v ∧ st'.mem = st.mem) :
    AFn Tryz.prog LVE 13 [x, .int .u32 n] (.tup [.int .u32 v, .bool true]) none := fun H w vs hbnd hL hrep => by
  rw [RepT] at hrep
  obtain ⟨u, us, rfl, hv, hus⟩ := hrep
  rw [RepT] at hus
  obtain ⟨u2, us2, rfl, hv2, hus⟩ := hus
  rw [RepT] at hus
  subst hus
  rw [RepV] at hv2
  subst hv2
  obtain ⟨A, c, rfl, hat⟩ := decR_at hbnd hd hv
  refine (l_answer r A c n v w hat hk hL hn hreal).mono ?_
  rintro e w' ⟨rfl, hb⟩
  refine ⟨_, H, rfl, hb, fun _ _ => rfl, fun b k hk => Nat.lt_of_lt_of_le (hbnd b k hk) hb.size, ?_, fun z hz => by cases hz⟩
  rw [RepV]
  refine ⟨[_, _], rfl, ?_⟩
  rw [RepT]
  refine ⟨_, _, rfl, by rw [RepV], ?_⟩
  rw [RepT]
  exact ⟨_, _, rfl, by rw [RepV], by rw [RepT]⟩

theorem answer_dbl (bh : Bool) {n : Int} (hn : 0 ≤ n ∧ n ≤ 4294967295) : AFn Tryz.prog LVE 13 [S.encR (S.rDbl bh), .int .u32 n] (.tup [.int .u32 (S.u32m (n + n)), .bool true]) none :=
  answer_fn (r := S.rDbl bh) (by cases bh <;> kernel_rfl) (ans_dbl bh) hn fun I i hI hs st h4 => ⟨16, _, by decide, real_dbl hI bh hs st, fun ret o k h => by rw [h4] at h; exact h⟩
theorem answer_pow : AFn Tryz.prog LVE 13 [S.encR S.rPow, .int .u32 5] (.tup [.int .u32 32, .bool true]) none :=
  answer_fn (r := S.rPow) (by kernel_rfl) ans_pow (by decide) fun I i hI hs st h4 => ⟨_, _, by decide, real_pow hI hs 5 st (by decide) h4, fun ret o k h => by
    obtain ⟨st', h1, h2, h3⟩ := h
    exact ⟨st', h1, by have : (2 : Nat) ^ 5 = 32 := rfl; omega, h3⟩⟩
theorem answer_loop : AFn Tryz.prog LVE 13 [S.encR S.rLoop, .int .u32 30] (.tup [.int .u32 1073741824, .bool true]) none :=
  answer_fn (r := S.rLoop) (by kernel_rfl) ans_loop (by decide) fun I i hI hs st h4 => ⟨17, _, by decide, real_loop hI hs (n := 30) (by decide) st h4, fun ret o k h => h⟩

def tab25 : List (FuncId × List S.AV × S.AV) :=
  [(13, [S.encR (S.rDbl false), .int .u32 21], .tup [.int .u32 42, .bool true]), (13, [S.encR (S.rDbl true), .int .u32 4], .tup [.int .u32 8, .bool true]),
   (13, [S.encR S.rPow, .int .u32 5], .tup [.int .u32 32, .bool true]), (13, [S.encR S.rLoop, .int .u32 30], .tup [.int .u32 1073741824, .bool true])]
theorem tab25_ok : ∀ p ∈ tab25, AFn Tryz.prog LVE p.1 p.2.1 p.2.2 none := by
  intro p hp
  simp only [tab25, List.mem_cons, List.not_mem_nil, or_false] at hp
  rcases hp with rfl | rfl | rfl | rfl
  · exact answer_dbl false (by decide)
  · exact answer_dbl true (by decide)
  · exact answer_pow
  · exact answer_loop
set_option maxRecDepth 100000 in
theorem awake25 : AFn Tryz.prog LVE 16 [] (.bool true) none := run_tab tab25_ok (cf := 300) (n := 20) (by kernel_rfl)
/-- A law that the interpreter has reckoned. -/
theorem law_of_true {f : FuncId} (h : AFn Tryz.prog LVE f [] (.bool true) none) (W : World) (hL : LVE W) : Calls Tryz.prog f #[] W fun e W' => e = .returned (.bool true) ∧ Below W.heap.size W W' := by
  refine (h (fun _ => none) W [] (fun b k hk => by cases hk) hL (by rw [RepT])).mono ?_
  rintro e W' ⟨v, H', rfl, hb, -, -, hr, -⟩
  rw [RepV] at hr
  exact ⟨by rw [hr], hb⟩
end Go.Proofs.YtlldagdhlfpihaaGreatDoor
