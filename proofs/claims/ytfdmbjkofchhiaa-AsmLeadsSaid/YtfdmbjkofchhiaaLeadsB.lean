/- Plain: in the words of items each branch and jump leads to its label. No program in sight. -/
import Derived.Test.YtfdmbjkofchhiaaAsmMin
import Derived.Test.YtfdmbjkofchhiaaAsmOut
set_option linter.unusedVariables false
set_option linter.unusedSimpArgs false
set_option linter.unusedSectionVars false
namespace Go.Proofs.Ytfdmbjkofchhiaa

theorem chk_all {xs : List S.Item} (h : S.firstErr xs = 0) : ∀ x ∈ xs, S.chkItem x = 0 := by
  induction xs with
  | nil => intro x hx; cases hx
  | cons y r ih =>
    intro x hx
    rw [S.firstErr] at h
    by_cases c : S.chkItem y = 0
    · rw [if_neg (by simp [c])] at h
      rcases List.mem_cons.1 hx with rfl | hx
      · exact c
      · exact ih h x hx
    · rw [if_pos c] at h
      exact absurd h c
theorem turned_bd {op : Int} (h : S.turned op ≠ 0) : 26 ≤ op ∧ op ≤ 31 ∧ 26 ≤ S.turned op ∧ S.turned op ≤ 31 := by
  revert h; unfold S.turned; grind
theorem good_branch {op a b imm : Int} (h1 : 26 ≤ op) (h2 : op ≤ 31) (ha : S.regOk a = true) (hb : S.regOk b = true) (i1 : -32768 ≤ imm) (i2 : imm ≤ 32767) : S.good ⟨op, 0, a, b, imm⟩ = true := by
  have hf : S.form op = 4 := by unfold S.form; grind
  have hl : S.least op = -32768 ∧ S.most op = 32767 := by unfold S.least S.most; grind
  simp only [S.regOk, decide_eq_true_eq] at ha hb
  simp only [S.good, hf, S.hasD, S.hasA, S.hasB, S.reg, hl.1, hl.2]
  simp
  omega
theorem good_jal {d imm : Int} (hd : S.regOk d = true) (i1 : -1048576 ≤ imm) (i2 : imm ≤ 1048575) : S.good ⟨32, d, 0, 0, imm⟩ = true := by
  have hf : S.form 32 = 5 := by decide
  have hl : S.least 32 = -1048576 ∧ S.most 32 = 1048575 := by decide
  simp only [S.regOk, decide_eq_true_eq] at hd
  simp only [S.good, hf, S.hasD, S.hasA, S.hasB, S.reg, hl.1, hl.2]
  simp
  omega
theorem good_jalr {d : Int} (hd : S.regOk d = true) : S.good ⟨33, d, 25, 0, 0⟩ = true := by
  have hf : S.form 33 = 2 := by decide
  have hl : S.least 33 = -32768 ∧ S.most 33 = 32767 := by decide
  simp only [S.regOk, decide_eq_true_eq] at hd
  simp only [S.good, hf, S.hasD, S.hasA, S.hasB, S.reg, hl.1, hl.2]
  simp
  omega
theorem good_lui {t : Int} (h0 : 0 ≤ t) (h1 : t ≤ 67108864) : S.good ⟨23, 25, 0, 0, t / 65536⟩ = true := by
  have hf : S.form 23 = 3 := by decide
  have hl : S.least 23 = 0 ∧ S.most 23 = 65535 := by decide
  simp only [S.good, hf, S.hasD, S.hasA, S.hasB, S.reg, hl.1, hl.2]
  simp
  omega
theorem good_ori (t : Int) : S.good ⟨17, 25, 25, 0, t % 65536⟩ = true := by
  have hf : S.form 17 = 2 := by decide
  have hl : S.least 17 = 0 ∧ S.most 17 = 65535 := by decide
  simp only [S.good, hf, S.hasD, S.hasA, S.hasB, S.reg, hl.1, hl.2]
  simp
  omega
theorem wordOf_enc {x : S.Inst} (h : S.good x = true) : S.wordOf x = S.enc x := by simp [S.wordOf, h]

/-- The words of a branch. -/
theorem branch_ways {xs : List S.Item} {base : Int} {F : List Int} (hc : S.firstErr xs = 0) (hS : S.Stable xs base F) {i : Nat} {x : S.Item} (hx : xs[i]? = some x) (hk : x.kind = 3) {j : Nat} (hj : S.stands xs x.label = j)
    (t0 : 0 ≤ S.addr xs F base j) (t1 : S.addr xs F base j ≤ 67108864) (a t f : Int) (ha : S.addr xs F base i = a) (ht : S.addr xs F base j = t) (hf : F.getD i 0 = f) :
    (f = 1 ∧ S.good ⟨x.inst.op, 0, x.inst.a, x.inst.b, t - a - 1⟩ = true ∧ S.wordsAt xs F base i = [S.enc ⟨x.inst.op, 0, x.inst.a, x.inst.b, t - a - 1⟩]) ∨
    (f = 2 ∧ S.good ⟨S.turned x.inst.op, 0, x.inst.a, x.inst.b, 1⟩ = true ∧ S.good ⟨32, 0, 0, 0, t - a - 2⟩ = true ∧ S.wordsAt xs F base i = [S.enc ⟨S.turned x.inst.op, 0, x.inst.a, x.inst.b, 1⟩, S.enc ⟨32, 0, 0, 0, t - a - 2⟩]) ∨
    (f = 3 ∧ S.good ⟨S.turned x.inst.op, 0, x.inst.a, x.inst.b, 3⟩ = true ∧ S.good ⟨23, 25, 0, 0, t / 65536⟩ = true ∧ S.good ⟨17, 25, 25, 0, t % 65536⟩ = true ∧ S.good ⟨33, 0, 25, 0, 0⟩ = true ∧
      S.wordsAt xs F base i = [S.enc ⟨S.turned x.inst.op, 0, x.inst.a, x.inst.b, 3⟩, S.enc ⟨23, 25, 0, 0, t / 65536⟩, S.enc ⟨17, 25, 25, 0, t % 65536⟩, S.enc ⟨33, 0, 25, 0, 0⟩]) := by
  have hm := List.mem_of_getElem? hx
  have h0 := chk_all hc x hm
  have hfit := hS.2 i x hx
  obtain ⟨h3, _, _⟩ := hS.1.2 i x hx
  have h3 := h3 hk
  have hr : S.turned x.inst.op ≠ 0 ∧ S.regOk x.inst.a = true ∧ S.regOk x.inst.b = true := by
    revert h0; unfold S.chkItem; rw [hk]; grind
  obtain ⟨r1, r2, r3⟩ := hr
  obtain ⟨o1, o2, o3, o4⟩ := turned_bd r1
  have hsz : S.addr xs F base (i + 1) = a + S.size x f := by
    rw [S.addr, ha]; simp only [S.sizeAt, hx, hf]
  have hnm : S.named x = true := by unfold S.named; rw [decide_eq_true_eq]; omega
  have hto : S.toOf xs F base x = t := by simp only [S.toOf, hnm, if_true, hj, Int.toNat_natCast, ht]
  have hwd : S.wordsAt xs F base i = S.wordsOf x f a t := by simp only [S.wordsAt, hx, hf, ha, hto]
  rw [hf] at h3
  rw [hwd]
  simp only [S.fit, hf, hj, Int.toNat_natCast, ht, hsz] at hfit
  rw [ht] at t0 t1
  clear hsz hwd hto
  have hf3 : f = 1 ∨ f = 2 ∨ f = 3 := by omega
  rcases hf3 with rfl | rfl | rfl
  · left
    have hb : -32768 ≤ t - a - 1 ∧ t - a - 1 ≤ 32767 := by
      simp [hk, S.size] at hfit
      omega
    have hg := good_branch (imm := t - a - 1) o1 o2 r2 r3 hb.1 hb.2
    refine ⟨rfl, hg, ?_⟩
    simp [S.wordsOf, hk, wordOf_enc hg]
  · right; left
    have hb : -1048576 ≤ t - a - 2 ∧ t - a - 2 ≤ 1048575 := by
      simp [hk, S.size] at hfit
      omega
    have hg := good_branch (imm := 1) o3 o4 r2 r3 (by omega) (by omega)
    have hg2 := good_jal (d := 0) (by decide) hb.1 hb.2
    refine ⟨rfl, hg, hg2, ?_⟩
    simp [S.wordsOf, hk, wordOf_enc hg, wordOf_enc hg2]
  · right; right
    have hg := good_branch (imm := 3) o3 o4 r2 r3 (by omega) (by omega)
    have g1 := good_lui t0 t1
    have g2 := good_ori t
    have g3 := good_jalr (d := 0) (by decide)
    refine ⟨rfl, hg, g1, g2, g3, ?_⟩
    simp [S.wordsOf, S.lui, S.ori, hk, wordOf_enc hg, wordOf_enc g1, wordOf_enc g2, wordOf_enc g3]

/-- The words of a jump. -/
theorem jump_ways {xs : List S.Item} {base : Int} {F : List Int} (hc : S.firstErr xs = 0) (hS : S.Stable xs base F) {i : Nat} {x : S.Item} (hx : xs[i]? = some x) (hk : x.kind = 4) {j : Nat} (hj : S.stands xs x.label = j)
    (t0 : 0 ≤ S.addr xs F base j) (t1 : S.addr xs F base j ≤ 67108864) (a t f : Int) (ha : S.addr xs F base i = a) (ht : S.addr xs F base j = t) (hf : F.getD i 0 = f) :
    (f = 1 ∧ S.good ⟨32, x.inst.d, 0, 0, t - a - 1⟩ = true ∧ S.wordsAt xs F base i = [S.enc ⟨32, x.inst.d, 0, 0, t - a - 1⟩]) ∨
    (f = 2 ∧ S.good ⟨23, 25, 0, 0, t / 65536⟩ = true ∧ S.good ⟨17, 25, 25, 0, t % 65536⟩ = true ∧ S.good ⟨33, x.inst.d, 25, 0, 0⟩ = true ∧
      S.wordsAt xs F base i = [S.enc ⟨23, 25, 0, 0, t / 65536⟩, S.enc ⟨17, 25, 25, 0, t % 65536⟩, S.enc ⟨33, x.inst.d, 25, 0, 0⟩]) := by
  have hm := List.mem_of_getElem? hx
  have h0 := chk_all hc x hm
  have hfit := hS.2 i x hx
  obtain ⟨_, h4, _⟩ := hS.1.2 i x hx
  have h4 := h4 hk
  have hr : S.regOk x.inst.d = true := by
    revert h0; unfold S.chkItem; rw [hk]; grind
  have hsz : S.addr xs F base (i + 1) = a + S.size x f := by
    rw [S.addr, ha]; simp only [S.sizeAt, hx, hf]
  have hnm : S.named x = true := by unfold S.named; rw [decide_eq_true_eq]; omega
  have hto : S.toOf xs F base x = t := by simp only [S.toOf, hnm, if_true, hj, Int.toNat_natCast, ht]
  have hwd : S.wordsAt xs F base i = S.wordsOf x f a t := by simp only [S.wordsAt, hx, hf, ha, hto]
  rw [hf] at h4
  rw [hwd]
  simp only [S.fit, hf, hj, Int.toNat_natCast, ht, hsz] at hfit
  rw [ht] at t0 t1
  clear hsz hwd hto
  have hf2 : f = 1 ∨ f = 2 := by omega
  rcases hf2 with rfl | rfl
  · left
    have hb : -1048576 ≤ t - a - 1 ∧ t - a - 1 ≤ 1048575 := by
      simp [hk, S.size] at hfit
      omega
    have hg := good_jal hr hb.1 hb.2
    refine ⟨rfl, hg, ?_⟩
    simp [S.wordsOf, hk, wordOf_enc hg]
  · right
    have g1 := good_lui t0 t1
    have g2 := good_ori t
    have g3 := good_jalr hr
    refine ⟨rfl, g1, g2, g3, ?_⟩
    simp [S.wordsOf, S.lui, S.ori, hk, wordOf_enc g1, wordOf_enc g2, wordOf_enc g3]

theorem outTo_at {xs : List S.Item} {F : List Int} {base : Int} {i q : Nat} (hq : q < (S.wordsAt xs F base i).length) : ∀ n : Nat, i < n → (S.outTo xs F base n)[(S.outTo xs F base i).length + q]? = (S.wordsAt xs F base i)[q]?
  | 0, h => by omega
  | n + 1, h => by
    rw [S.outTo]
    by_cases e : i = n
    · subst e
      rw [List.getElem?_append_right (by omega)]
      congr 1
      omega
    · have ih := outTo_at (F := F) (base := base) hq n (by omega)
      have hlt : (S.outTo xs F base i).length + q < (S.outTo xs F base n).length := by
        rw [List.getElem?_eq_getElem hq] at ih
        exact (List.getElem?_eq_some_iff.1 ih).1
      rw [List.getElem?_append_left hlt]
      exact ih
theorem placesTo_at {xs : List S.Item} {F : List Int} {base : Int} {i : Nat} {x : S.Item} (hx : xs[i]? = some x) (hk : x.kind = 2) : ∀ n : Nat, i < n → (S.placesTo xs F base n)[(S.placesTo xs F base i).length]? = some (x.label, S.addr xs F base i)
  | 0, h => by omega
  | n + 1, h => by
    rw [S.placesTo]
    by_cases e : i = n
    · subst e
      rw [List.getElem?_append_right (by omega)]
      simp [S.placeAt, hx, hk]
    · have ih := placesTo_at (F := F) (base := base) hx hk n (by omega)
      rw [List.getElem?_append_left (List.getElem?_eq_some_iff.1 ih).1]
      exact ih
theorem placesTo_succ {xs : List S.Item} {F : List Int} {base : Int} {i : Nat} {x : S.Item} (hx : xs[i]? = some x) : (S.placesTo xs F base (i + 1)).length = (S.placesTo xs F base i).length + if x.kind = 2 then 1 else 0 := by
  rw [S.placesTo, List.length_append]
  by_cases h : x.kind = 2 <;> simp [S.placeAt, hx, h]

end Go.Proofs.Ytfdmbjkofchhiaa
