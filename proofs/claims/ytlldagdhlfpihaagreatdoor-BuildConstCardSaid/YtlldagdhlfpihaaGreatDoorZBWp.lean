/- BFar, BWp: joined.  Plain: what routines of expressions and statements do, as conditions; what it is that a machine does so. No program in sight. -/
import Derived.Test.YtlldagdhlfpihaaGreatDoorZBGo
import Derived.Test.YtlldagdhlfpihaaGreatDoorZBMem
section
set_option linter.unusedVariables false
set_option linter.unusedSimpArgs false
set_option linter.unusedSectionVars false
namespace Go.Proofs.YtlldagdhlfpihaaGreatDoor
open Go.RowKit

theorem or16 {h l : Nat} (hl : l < 65536) : (h * 65536) ||| l = h * 65536 + l := by
  have := Nat.two_pow_add_eq_or_of_lt (i := 16) (b := l) (by omega) h
  have e : 2 ^ 16 * h = h * 65536 := by omega
  rw [e] at this
  exact this.symm
theorem word16 {w : Int} (w0 : 0 ≤ w) (w1 : w ≤ 4294967295) : S.alu 8 (w / 65536 * 65536) (w % 65536) = w := by
  show bits .or .u32 (w / 65536 * 65536) (w % 65536) = w
  rw [u32_or (by omega) (by omega) (by omega) (by omega)]
  have e3 : (w / 65536 * 65536).toNat = (w / 65536).toNat * 65536 := by omega
  rw [e3, or16 (by omega)]
  omega

theorem fit_4 {xs : List S.Item} {F : List Int} {base : Int} {i : Nat} {x : S.Item} (hk : x.kind = 4) (hf : F.getD i 0 = 1) (h : S.fit xs F base i x = true) :
    -1048576 ≤ S.addr xs F base (S.stands xs x.label).toNat - S.addr xs F base (i + 1) ∧ S.addr xs F base (S.stands xs x.label).toNat - S.addr xs F base (i + 1) ≤ 1048575 := by
  unfold S.fit at h
  rw [if_neg (by rw [hf, hk]; decide), if_neg (fun q => by rw [hk] at q; exact absurd q.1 (by decide))] at h
  exact of_decide_eq_true h
theorem fit_32 {xs : List S.Item} {F : List Int} {base : Int} {i : Nat} {x : S.Item} (hk : x.kind = 3) (hf : F.getD i 0 = 2) (h : S.fit xs F base i x = true) :
    -1048576 ≤ S.addr xs F base (S.stands xs x.label).toNat - S.addr xs F base (i + 1) ∧ S.addr xs F base (S.stands xs x.label).toNat - S.addr xs F base (i + 1) ≤ 1048575 := by
  unfold S.fit at h
  rw [if_neg (by rw [hf, hk]; decide), if_neg (by rw [hf, hk]; decide)] at h
  exact of_decide_eq_true h
theorem fit_31 {xs : List S.Item} {F : List Int} {base : Int} {i : Nat} {x : S.Item} (hk : x.kind = 3) (hf : F.getD i 0 = 1) (h : S.fit xs F base i x = true) :
    -32768 ≤ S.addr xs F base (S.stands xs x.label).toNat - S.addr xs F base (i + 1) ∧ S.addr xs F base (S.stands xs x.label).toNat - S.addr xs F base (i + 1) ≤ 32767 := by
  unfold S.fit at h
  rw [if_neg (by rw [hf, hk]; decide), if_pos (by rw [hf, hk]; decide)] at h
  exact of_decide_eq_true h

theorem good_1 {op d a b : Int} (ho : 1 ≤ op ∧ op ≤ 14) (hd : 0 ≤ d ∧ d ≤ 31) (ha : 0 ≤ a ∧ a ≤ 31) (hb : 0 ≤ b ∧ b ≤ 31) : S.good ⟨op, d, a, b, 0⟩ = true := by
  have hf : S.form op = 1 := by unfold S.form; rw [if_pos ho]
  have hl : S.least op ≤ 0 ∧ 0 ≤ S.most op := by
    unfold S.least S.most
    rw [hf]
    constructor
    · repeat' split
      all_goals first | omega | (exfalso; omega)
    · repeat' split
      all_goals first | omega | (exfalso; omega)
  simp [S.good, hf, hl.1, hl.2, S.reg, S.hasD, S.hasA, S.hasB]
  omega
theorem good_jal {d n : Int} (hd : 0 ≤ d ∧ d ≤ 31) (hn : -1048576 ≤ n ∧ n ≤ 1048575) : S.good ⟨32, d, 0, 0, n⟩ = true := by
  have hf : S.form 32 = 5 := by decide
  have hl : S.least 32 = -1048576 ∧ S.most 32 = 1048575 := by decide
  simp [S.good, hf, hl.1, hl.2, S.reg, S.hasD, S.hasA, S.hasB]
  omega
theorem good_jalr {d a n : Int} (hd : 0 ≤ d ∧ d ≤ 31) (ha : 0 ≤ a ∧ a ≤ 31) (hn : -32768 ≤ n ∧ n ≤ 32767) : S.good ⟨33, d, a, 0, n⟩ = true := by
  have hf : S.form 33 = 2 := by decide
  have hl : S.least 33 = -32768 ∧ S.most 33 = 32767 := by decide
  simp [S.good, hf, hl.1, hl.2, S.reg, S.hasD, S.hasA, S.hasB]
  omega
theorem good_luiB {d n : Int} (hd : 0 ≤ d ∧ d ≤ 31) (hn : 0 ≤ n ∧ n ≤ 65535) : S.good ⟨23, d, 0, 0, n⟩ = true := by
  have hf : S.form 23 = 3 := by decide
  have hl : S.least 23 = 0 ∧ S.most 23 = 65535 := by decide
  simp [S.good, hf, hl.1, hl.2, S.reg, S.hasD, S.hasA, S.hasB]
  omega
theorem good_oriB {d a n : Int} (hd : 0 ≤ d ∧ d ≤ 31) (ha : 0 ≤ a ∧ a ≤ 31) (hn : 0 ≤ n ∧ n ≤ 65535) : S.good ⟨17, d, a, 0, n⟩ = true := by
  have hf : S.form 17 = 2 := by decide
  have hl : S.least 17 = 0 ∧ S.most 17 = 65535 := by decide
  simp [S.good, hf, hl.1, hl.2, S.reg, S.hasD, S.hasA, S.hasB]
  omega
theorem good_bq {op a b n : Int} (ho : op = 26 ∨ op = 27) (ha : 0 ≤ a ∧ a ≤ 31) (hb : 0 ≤ b ∧ b ≤ 31) (hn : -32768 ≤ n ∧ n ≤ 32767) : S.good ⟨op, 0, a, b, n⟩ = true := by
  rcases ho with rfl | rfl
  · have hf : S.form 26 = 4 := by decide
    have hl : S.least 26 = -32768 ∧ S.most 26 = 32767 := by decide
    simp [S.good, hf, hl.1, hl.2, S.reg, S.hasD, S.hasA, S.hasB]
    omega
  · have hf : S.form 27 = 4 := by decide
    have hl : S.least 27 = -32768 ∧ S.most 27 = 32767 := by decide
    simp [S.good, hf, hl.1, hl.2, S.reg, S.hasD, S.hasA, S.hasB]
    omega

section
variable {I : S.Img} (hI : I.Ok)
include hI
theorem on_put25 {m : S.Mach} {V : S.Vw} {a : Int} (h : S.On I m V a) {y : S.Inst} {v p : Int} (hs : m.step = { (m.act y).1 with place := (m.act y).2.1, steps := m.steps + 1 })
    (hy : 0 ≤ y.d) (ha : m.act y = (m.put 25 v, p, 0)) : S.On I m.step V p ∧ m.step.rd 25 = v := by
  refine ⟨(on_put hI h (by decide) (by decide) hs hy ha).ext (fun j _ _ h2 => ?_) (fun _ _ _ => rfl) rfl rfl, ?_⟩
  · show (if j = 25 then v else V.reg j) = V.reg j
    rw [if_neg h2]
  · rw [hs, ha]
    have hr := h.ok.regs
    show (m.reg.set 25 v).getD 25 0 = v
    have : 25 < m.reg.length := by omega
    simp [this]
variable {i : Nat} (h0 : I.i0 ≤ i) (h1 : i < I.i1)
include h0 h1
theorem on_far {m : S.Mach} {V : S.Vw} {j : Nat} {tq : Int} (hm : S.On I m V (I.adr i + j)) (ht0 : 0 ≤ tq) (ht1 : tq ≤ 4294967295)
    (hj : (S.wordsAt I.xs I.F 0 i)[j]? = some (S.lui tq)) (hj1 : (S.wordsAt I.xs I.F 0 i)[j + 1]? = some (S.ori tq)) :
    S.On I (m.steps_ 2) V (I.adr i + (j + 2 : Nat)) ∧ (m.steps_ 2).rd 25 = tq := by
  have hg1 : S.good ⟨23, 25, 0, 0, tq / 65536⟩ = true := good_luiB (by decide) (by omega)
  have hg2 : S.good ⟨17, 25, 25, 0, tq % 65536⟩ = true := good_oriB (by decide) (by decide) (by omega)
  have a1 : m.act ⟨23, 25, 0, 0, tq / 65536⟩ = (m.put 25 (tq / 65536 * 65536), S.u32m (m.place + 1), 0) := by
    have e : S.u32m (S.u32m (tq / 65536) * 65536) = tq / 65536 * 65536 := by unfold S.u32m; omega
    unfold S.Mach.act
    simp [e]
  obtain ⟨s1, p1⟩ := on_fetch hI hm h0 h1 hj rfl hg1 (by rw [a1])
  obtain ⟨k1, r1⟩ := on_put25 hI hm s1 (show (0 : Int) ≤ 25 by decide) a1
  rw [p1] at k1
  have a2 : m.step.act ⟨17, 25, 25, 0, tq % 65536⟩ = (m.step.put 25 tq, S.u32m (m.step.place + 1), 0) := by
    have e : S.alu (S.like 17) (tq / 65536 * 65536) (S.u32m (tq % 65536)) = tq := by
      have e1 : S.u32m (tq % 65536) = tq % 65536 := by unfold S.u32m; omega
      rw [e1]
      exact word16 ht0 ht1
    unfold S.Mach.act
    simp only [r1, e]
    rw [if_neg (by decide), if_pos (by decide)]
  obtain ⟨s2, p2⟩ := on_fetch hI k1 h0 h1 hj1 (by omega) hg2 (by rw [a2])
  obtain ⟨k2, r2⟩ := on_put25 hI k1 s2 (show (0 : Int) ≤ 25 by decide) a2
  rw [p2] at k2
  have e2 : m.steps_ 2 = m.step.step := rfl
  rw [e2]
  refine ⟨?_, r2⟩
  have e3 : I.adr i + ((j + 1 : Nat) : Int) + 1 = I.adr i + ((j + 2 : Nat) : Int) := by omega
  rw [← e3]
  exact k2

/-- Where a label stands: within 0 and the end. -/
theorem lab_bd {x : S.Item} (hx : I.xs[i]? = some x) (hn : S.named x = true) : S.toOf I.xs I.F 0 x = I.lab x.label ∧ 0 ≤ I.lab x.label ∧ I.lab x.label ≤ 67108864 := by
  have e : S.toOf I.xs I.F 0 x = I.lab x.label := by unfold S.toOf; rw [if_pos hn]; rfl
  have h := toOf_bd (img_forms hI) hI.words (Int.le_refl 0) (img_small hI) x
  rw [e] at h
  exact ⟨e, h⟩
/-- A jump that sets no register. -/
theorem go_jump0 {V : S.Vw} {o a b n : Int} {s : ByteArray} {w : Int} (hx : I.xs[i]? = some ⟨4, ⟨o, 0, a, b, n⟩, s, w⟩) : S.Go I V (I.adr i) 3 V (I.lab s) := fun m hm => by
  obtain ⟨hl, l0, l1⟩ : S.toOf I.xs I.F 0 _ = I.lab s ∧ 0 ≤ I.lab s ∧ I.lab s ≤ 67108864 := lab_bd hI h0 h1 hx rfl
  have hsz := img_next hI hx
  have hfo := ((img_forms hI).2 i _ hx).2.1 rfl
  have hfit := (img_stable hI).2 i _ hx
  have hb := img_top hI (i := i + 1) (by have := hI.i1l; omega)
  have hb0 := img_0 hI i
  have hw : S.wordsAt I.xs I.F 0 i = S.wordsOf ⟨4, ⟨o, 0, a, b, n⟩, s, w⟩ (I.F.getD i 0) (I.adr i) (I.lab s) := by
    unfold S.wordsAt
    rw [hx]
    show S.wordsOf _ _ _ (S.toOf I.xs I.F 0 _) = _
    rw [hl]
    rfl
  rcases (show I.F.getD i 0 = 1 ∨ I.F.getD i 0 = 2 by omega) with hf | hf
  · rw [hf] at hw hsz
    have hw' : S.wordsAt I.xs I.F 0 i = [S.wordOf ⟨32, 0, 0, 0, I.lab s - I.adr i - 1⟩] := hw
    have hsz' : I.adr (i + 1) = I.adr i + 1 := hsz
    have hr : -1048576 ≤ I.lab s - I.adr (i + 1) ∧ I.lab s - I.adr (i + 1) ≤ 1048575 := fit_4 rfl hf hfit
    have hg : S.good ⟨32, 0, 0, 0, I.lab s - I.adr i - 1⟩ = true := good_jal (by decide) (by omega)
    have ha : m.act ⟨32, 0, 0, 0, I.lab s - I.adr i - 1⟩ = (m, S.u32m (S.u32m (m.place + 1) + S.u32m (I.lab s - I.adr i - 1)), 0) := by
      unfold S.Mach.act S.Mach.put
      simp
    obtain ⟨s1, p1⟩ := on_fetch hI hm h0 h1 (j := 0) (by rw [hw']; rfl) (by simp) hg (by rw [ha])
    have k1 := on_same hI hm s1 (Int.le_refl _) ha
    refine ⟨1, by decide, ?_⟩
    have e : S.u32m (S.u32m (m.place + 1) + S.u32m (I.lab s - I.adr i - 1)) = I.lab s := by
      rw [p1]
      unfold S.u32m
      omega
    rw [e] at k1
    exact k1
  · rw [hf] at hw
    have hw' : S.wordsAt I.xs I.F 0 i = [S.lui (I.lab s), S.ori (I.lab s), S.wordOf ⟨33, 0, 25, 0, 0⟩] := hw
    obtain ⟨k2, r2⟩ := on_far hI h0 h1 (j := 0) (tq := I.lab s) (by simpa using hm) l0 (by omega) (by rw [hw']; rfl) (by rw [hw']; rfl)
    have ha : (m.steps_ 2).act ⟨33, 0, 25, 0, 0⟩ = (m.steps_ 2, I.lab s, 0) := by
      have e : S.u32m (I.lab s + S.u32m 0) = I.lab s := by unfold S.u32m; omega
      unfold S.Mach.act S.Mach.put
      simp only [r2, e]
      simp
    obtain ⟨s1, p1⟩ := on_fetch hI k2 h0 h1 (j := 2) (by rw [hw']; rfl) rfl (good_jalr (by decide) (by decide) (by decide)) (by rw [ha])
    exact ⟨3, Nat.le_refl _, on_same hI k2 s1 (Int.le_refl _) ha⟩
/-- A jump that sets a register. -/
theorem go_jumpD {V : S.Vw} {o d a b n : Int} {s : ByteArray} {w : Int} (hx : I.xs[i]? = some ⟨4, ⟨o, d, a, b, n⟩, s, w⟩) (hd : 0 < d) (hd2 : d ≤ 31) : S.Go I V (I.adr i) 3 (V.set d (I.adr (i + 1))) (I.lab s) := fun m hm => by
  obtain ⟨hl, l0, l1⟩ : S.toOf I.xs I.F 0 _ = I.lab s ∧ 0 ≤ I.lab s ∧ I.lab s ≤ 67108864 := lab_bd hI h0 h1 hx rfl
  have hsz := img_next hI hx
  have hfo := ((img_forms hI).2 i _ hx).2.1 rfl
  have hfit := (img_stable hI).2 i _ hx
  have hb := img_top hI (i := i + 1) (by have := hI.i1l; omega)
  have hb0 := img_0 hI i
  have hw : S.wordsAt I.xs I.F 0 i = S.wordsOf ⟨4, ⟨o, d, a, b, n⟩, s, w⟩ (I.F.getD i 0) (I.adr i) (I.lab s) := by
    unfold S.wordsAt
    rw [hx]
    show S.wordsOf _ _ _ (S.toOf I.xs I.F 0 _) = _
    rw [hl]
    rfl
  rcases (show I.F.getD i 0 = 1 ∨ I.F.getD i 0 = 2 by omega) with hf | hf
  · rw [hf] at hw hsz
    have hw' : S.wordsAt I.xs I.F 0 i = [S.wordOf ⟨32, d, 0, 0, I.lab s - I.adr i - 1⟩] := hw
    have hsz' : I.adr (i + 1) = I.adr i + 1 := hsz
    have hr : -1048576 ≤ I.lab s - I.adr (i + 1) ∧ I.lab s - I.adr (i + 1) ≤ 1048575 := fit_4 rfl hf hfit
    have hg : S.good ⟨32, d, 0, 0, I.lab s - I.adr i - 1⟩ = true := good_jal (by omega) (by omega)
    have ha : m.act ⟨32, d, 0, 0, I.lab s - I.adr i - 1⟩ = (m.put d (S.u32m (m.place + 1)), S.u32m (S.u32m (m.place + 1) + S.u32m (I.lab s - I.adr i - 1)), 0) := by
      unfold S.Mach.act
      simp
    obtain ⟨s1, p1⟩ := on_fetch hI hm h0 h1 (j := 0) (by rw [hw']; rfl) (by simp) hg (by rw [ha])
    have k1 := on_put hI hm hd hd2 s1 (by show 0 ≤ d; omega) ha
    refine ⟨1, by decide, ?_⟩
    have e : S.u32m (S.u32m (m.place + 1) + S.u32m (I.lab s - I.adr i - 1)) = I.lab s := by
      rw [p1]
      unfold S.u32m
      omega
    have e2 : S.u32m (m.place + 1) = I.adr (i + 1) := by rw [p1, hsz']; simp
    rw [e, e2] at k1
    exact k1
  · rw [hf] at hw hsz
    have hw' : S.wordsAt I.xs I.F 0 i = [S.lui (I.lab s), S.ori (I.lab s), S.wordOf ⟨33, d, 25, 0, 0⟩] := hw
    have hsz' : I.adr (i + 1) = I.adr i + 3 := hsz
    obtain ⟨k2, r2⟩ := on_far hI h0 h1 (j := 0) (tq := I.lab s) (by simpa using hm) l0 (by omega) (by rw [hw']; rfl) (by rw [hw']; rfl)
    have ha : (m.steps_ 2).act ⟨33, d, 25, 0, 0⟩ = ((m.steps_ 2).put d (S.u32m ((m.steps_ 2).place + 1)), I.lab s, 0) := by
      have e : S.u32m (I.lab s + S.u32m 0) = I.lab s := by unfold S.u32m; omega
      unfold S.Mach.act
      simp only [r2, e]
      simp
    obtain ⟨s1, p1⟩ := on_fetch hI k2 h0 h1 (j := 2) (by rw [hw']; rfl) rfl (good_jalr (by omega) (by decide) (by decide)) (by rw [ha])
    have k1 := on_put hI k2 hd hd2 s1 (by show 0 ≤ d; omega) ha
    have e2 : S.u32m ((m.steps_ 2).place + 1) = I.adr (i + 1) := by rw [p1, hsz']; omega
    rw [e2] at k1
    exact ⟨3, Nat.le_refl _, k1⟩
/-- A label's address. -/
theorem go_addr {V : S.Vw} {o d a b n : Int} {s : ByteArray} (hx : I.xs[i]? = some ⟨5, ⟨o, d, a, b, n⟩, s, 0⟩) (hd : 0 < d) (hd2 : d ≤ 31) (hd3 : d ≠ 25) : S.Go I V (I.adr i) 2 (V.set d (I.lab s)) (I.adr (i + 1)) := fun m hm => by
  obtain ⟨hl, l0, l1⟩ : S.toOf I.xs I.F 0 _ = I.lab s ∧ 0 ≤ I.lab s ∧ I.lab s ≤ 67108864 := lab_bd hI h0 h1 hx rfl
  have hsz : I.adr (i + 1) = I.adr i + 2 := img_next hI hx
  have hw' : S.wordsAt I.xs I.F 0 i = [S.wordOf ⟨23, d, 0, 0, I.lab s / 65536⟩, S.wordOf ⟨17, d, d, 0, I.lab s % 65536⟩] := by
    unfold S.wordsAt
    rw [hx]
    show S.wordsOf _ _ _ (S.toOf I.xs I.F 0 _) = _
    rw [hl]
    show [S.wordOf ⟨23, d, 0, 0, (I.lab s + 0) % 4294967296 / 65536⟩, S.wordOf ⟨17, d, d, 0, (I.lab s + 0) % 4294967296 % 65536⟩] = _
    have e : (I.lab s + 0) % 4294967296 = I.lab s := by omega
    rw [e]
  have hg1 : S.good ⟨23, d, 0, 0, I.lab s / 65536⟩ = true := good_luiB (by omega) (by omega)
  have hg2 : S.good ⟨17, d, d, 0, I.lab s % 65536⟩ = true := good_oriB (by omega) (by omega) (by omega)
  have a1 : m.act ⟨23, d, 0, 0, I.lab s / 65536⟩ = (m.put d (I.lab s / 65536 * 65536), S.u32m (m.place + 1), 0) := by
    have e : S.u32m (S.u32m (I.lab s / 65536) * 65536) = I.lab s / 65536 * 65536 := by unfold S.u32m; omega
    unfold S.Mach.act
    simp [e]
  obtain ⟨s1, p1⟩ := on_fetch hI hm h0 h1 (j := 0) (by rw [hw']; rfl) (by simp) hg1 (by rw [a1])
  have k1 := on_put hI hm hd hd2 s1 (by show 0 ≤ d; omega) a1
  rw [p1] at k1
  have r1 : m.step.rd d = I.lab s / 65536 * 65536 := by
    rw [k1.reg d (by omega) hd2 hd3]
    show (if d = d then _ else _) = _
    rw [if_pos rfl]
  have a2 : m.step.act ⟨17, d, d, 0, I.lab s % 65536⟩ = (m.step.put d (I.lab s), S.u32m (m.step.place + 1), 0) := by
    have e : S.alu (S.like 17) (I.lab s / 65536 * 65536) (S.u32m (I.lab s % 65536)) = I.lab s := by
      have e1 : S.u32m (I.lab s % 65536) = I.lab s % 65536 := by unfold S.u32m; omega
      rw [e1]
      exact word16 l0 (by omega)
    unfold S.Mach.act
    simp only [r1, e]
    rw [if_neg (by decide), if_pos (by decide)]
  obtain ⟨s2, p2⟩ := on_fetch hI k1 h0 h1 (j := 1) (by rw [hw']; rfl) (by omega) hg2 (by rw [a2])
  have k2 := on_put hI k1 hd hd2 s2 (by show 0 ≤ d; omega) a2
  refine ⟨2, Nat.le_refl _, ?_⟩
  have e3 : S.u32m (m.step.place + 1) = I.adr (i + 1) := by rw [p2, hsz]; omega
  rw [e3] at k2
  refine k2.ext (fun j _ _ _ => ?_) (fun _ _ _ => rfl) rfl rfl
  show (if j = d then _ else if j = d then _ else _) = if j = d then _ else _
  split <;> rfl
/-- A branch that is taken if a register is 0. -/
theorem go_unless {V : S.Vw} {d a n : Int} {s : ByteArray} {w : Int} (hx : I.xs[i]? = some ⟨3, ⟨26, d, a, 0, n⟩, s, w⟩) (ha : 0 ≤ a ∧ a ≤ 31 ∧ a ≠ 25) :
    S.Go I V (I.adr i) 4 V (if V.reg a = 0 then I.lab s else I.adr (i + 1)) := fun m hm => by
  obtain ⟨hl, l0, l1⟩ : S.toOf I.xs I.F 0 _ = I.lab s ∧ 0 ≤ I.lab s ∧ I.lab s ≤ 67108864 := lab_bd hI h0 h1 hx rfl
  have hsz := img_next hI hx
  have hfo := ((img_forms hI).2 i _ hx).1 rfl
  have hfit := (img_stable hI).2 i _ hx
  have hb := img_top hI (i := i + 1) (by have := hI.i1l; omega)
  have hb0 := img_0 hI i
  have e1 := hm.reg a ha.1 ha.2.1 ha.2.2
  have e0 : m.rd 0 = 0 := hm.ok.zero
  have hw : S.wordsAt I.xs I.F 0 i = S.wordsOf ⟨3, ⟨26, d, a, 0, n⟩, s, w⟩ (I.F.getD i 0) (I.adr i) (I.lab s) := by
    unfold S.wordsAt
    rw [hx]
    show S.wordsOf _ _ _ (S.toOf I.xs I.F 0 _) = _
    rw [hl]
    rfl
  have hgo : ∀ m' : S.Mach, m'.rd a = V.reg a → m'.rd 0 = 0 → ∀ k : Int, (m'.act ⟨26, 0, a, 0, k⟩ = (m', if V.reg a = 0 then S.u32m (S.u32m (m'.place + 1) + S.u32m k) else S.u32m (m'.place + 1), 0)) ∧
      (m'.act ⟨27, 0, a, 0, k⟩ = (m', if V.reg a = 0 then S.u32m (m'.place + 1) else S.u32m (S.u32m (m'.place + 1) + S.u32m k), 0)) := by
    intro m' r1 r0 k
    constructor
    · unfold S.Mach.act S.goes
      simp only [r1, r0]
      by_cases c : V.reg a = 0 <;> simp [c]
    · unfold S.Mach.act S.goes
      simp only [r1, r0]
      by_cases c : V.reg a = 0 <;> simp [c]
  rcases (show I.F.getD i 0 = 1 ∨ I.F.getD i 0 = 2 ∨ I.F.getD i 0 = 3 by omega) with hf | hf | hf
  · rw [hf] at hw hsz
    have hw' : S.wordsAt I.xs I.F 0 i = [S.wordOf ⟨26, 0, a, 0, I.lab s - I.adr i - 1⟩] := hw
    have hsz' : I.adr (i + 1) = I.adr i + 1 := hsz
    have hr : -32768 ≤ I.lab s - I.adr (i + 1) ∧ I.lab s - I.adr (i + 1) ≤ 32767 := fit_31 rfl hf hfit
    have hac := (hgo m e1 e0 (I.lab s - I.adr i - 1)).1
    obtain ⟨s1, p1⟩ := on_fetch hI hm h0 h1 (j := 0) (by rw [hw']; rfl) (by simp) (good_bq (.inl rfl) ⟨ha.1, ha.2.1⟩ (by decide) (by omega)) (by rw [hac])
    have k1 := on_same hI hm s1 (Int.le_refl _) hac
    refine ⟨1, by decide, ?_⟩
    have e : (if V.reg a = 0 then S.u32m (S.u32m (m.place + 1) + S.u32m (I.lab s - I.adr i - 1)) else S.u32m (m.place + 1)) = if V.reg a = 0 then I.lab s else I.adr (i + 1) := by
      split
      · rw [p1]; unfold S.u32m; omega
      · rw [p1, hsz']; simp
    rw [e] at k1
    exact k1
  · rw [hf] at hw hsz
    have hw' : S.wordsAt I.xs I.F 0 i = [S.wordOf ⟨27, 0, a, 0, 1⟩, S.wordOf ⟨32, 0, 0, 0, I.lab s - I.adr i - 2⟩] := hw
    have hsz' : I.adr (i + 1) = I.adr i + 2 := hsz
    have hr : -1048576 ≤ I.lab s - I.adr (i + 1) ∧ I.lab s - I.adr (i + 1) ≤ 1048575 := fit_32 rfl hf hfit
    have hac := (hgo m e1 e0 1).2
    obtain ⟨s1, p1⟩ := on_fetch hI hm h0 h1 (j := 0) (by rw [hw']; rfl) (by simp) (good_bq (.inr rfl) ⟨ha.1, ha.2.1⟩ (by decide) (by omega)) (by rw [hac])
    have k1 := on_same hI hm s1 (Int.le_refl _) hac
    by_cases c : V.reg a = 0
    · rw [if_pos c] at k1 ⊢
      rw [p1] at k1
      have ha2 : m.step.act ⟨32, 0, 0, 0, I.lab s - I.adr i - 2⟩ = (m.step, S.u32m (S.u32m (m.step.place + 1) + S.u32m (I.lab s - I.adr i - 2)), 0) := by
        unfold S.Mach.act S.Mach.put
        simp
      obtain ⟨s2, p2⟩ := on_fetch hI k1 h0 h1 (j := 1) (by rw [hw']; rfl) (by simp) (good_jal (by decide) (by omega)) (by rw [ha2])
      have k2 := on_same hI k1 s2 (Int.le_refl _) ha2
      refine ⟨2, by decide, ?_⟩
      have e : S.u32m (S.u32m (m.step.place + 1) + S.u32m (I.lab s - I.adr i - 2)) = I.lab s := by
        rw [p2]
        unfold S.u32m
        omega
      rw [e] at k2
      exact k2
    · rw [if_neg c] at k1 ⊢
      refine ⟨1, by decide, ?_⟩
      have e : S.u32m (S.u32m (m.place + 1) + S.u32m 1) = I.adr (i + 1) := by
        rw [p1, hsz']
        unfold S.u32m
        omega
      rw [e] at k1
      exact k1
  · rw [hf] at hw hsz
    have hw' : S.wordsAt I.xs I.F 0 i = [S.wordOf ⟨27, 0, a, 0, 3⟩, S.lui (I.lab s), S.ori (I.lab s), S.wordOf ⟨33, 0, 25, 0, 0⟩] := hw
    have hsz' : I.adr (i + 1) = I.adr i + 4 := hsz
    have hac := (hgo m e1 e0 3).2
    obtain ⟨s1, p1⟩ := on_fetch hI hm h0 h1 (j := 0) (by rw [hw']; rfl) (by simp) (good_bq (.inr rfl) ⟨ha.1, ha.2.1⟩ (by decide) (by omega)) (by rw [hac])
    have k1 := on_same hI hm s1 (Int.le_refl _) hac
    by_cases c : V.reg a = 0
    · rw [if_pos c] at k1 ⊢
      rw [p1] at k1
      obtain ⟨k2, r2⟩ := on_far hI h0 h1 (m := m.step) (j := 1) (tq := I.lab s) (by simpa using k1) l0 (by omega) (by rw [hw']; rfl) (by rw [hw']; rfl)
      have ha2 : (m.step.steps_ 2).act ⟨33, 0, 25, 0, 0⟩ = (m.step.steps_ 2, I.lab s, 0) := by
        have e : S.u32m (I.lab s + S.u32m 0) = I.lab s := by unfold S.u32m; omega
        unfold S.Mach.act S.Mach.put
        simp only [r2, e]
        simp
      obtain ⟨s2, p2⟩ := on_fetch hI k2 h0 h1 (j := 3) (by rw [hw']; rfl) rfl (good_jalr (by decide) (by decide) (by decide)) (by rw [ha2])
      have k3 := on_same hI k2 s2 (Int.le_refl _) ha2
      refine ⟨4, Nat.le_refl _, ?_⟩
      have e4 : m.steps_ 4 = (m.step.steps_ 2).step := by
        show m.steps_ (1 + 3) = _
        rw [steps_add]
        rfl
      rw [e4]
      exact k3
    · rw [if_neg c] at k1 ⊢
      refine ⟨1, by decide, ?_⟩
      have e : S.u32m (S.u32m (m.place + 1) + S.u32m 3) = I.adr (i + 1) := by
        rw [p1, hsz']
        unfold S.u32m
        omega
      rw [e] at k1
      exact k1
end

end Go.Proofs.YtlldagdhlfpihaaGreatDoor
end

section
set_option linter.unusedVariables false
set_option linter.unusedSimpArgs false
set_option linter.unusedSectionVars false
namespace Go.Proofs.YtlldagdhlfpihaaGreatDoor
open Go.RowKit

namespace S
/-- How a routine ends: it comes back, halts with a code, or goes on at an address. -/
inductive BO where
  | ret (st : Vw)
  | halt (code : Int) (st : Vw)
  | left (tq : Int) (st : Vw)

/-- The registers that may be seen, and the memory but the stack, are a machine's. -/
structure Mt (I : Img) (V st : Vw) : Prop where
  vis : ∀ n, visB n = true → V.reg n = st.reg n
  mem : ∀ a, 0 ≤ a → a < I.size → ¬ I.stk a → V.mem a = st.mem a
  inp : V.inp = st.inp
  out : V.out = st.out
/-- A frame on the stack: where it was called from, its locals, what is reckoned so far. -/
structure Fr (V : Vw) (base lk : Int) (env ts : List Int) : Prop where
  lk : V.mem base = lk
  env : ∀ k, k < env.length → V.mem (base + 1 + k) = env.getD k 0
  ts : ∀ k, k < ts.length → V.reg (11 + k) = ts.getD k 0
/-- The stack below a place stays. -/
def Kp (I : Img) (base : Int) (V V' : Vw) : Prop := ∀ a, I.lo ≤ a → a < base → V'.mem a = V.mem a

def backTo (behind : Bool) (V : Vw) (ret : Int) : Int := if behind = true then u32m (u32m (ret + V.mem ret) + 1) else ret
/-- From an address a machine ends so. -/
def Done (I : Img) (V : Vw) (a : Int) (k : Nat) (top ret : Int) (behind : Bool) : BO → Prop
  | .ret st => ∃ V', Go I V a k V' (backTo behind V' ret) ∧ Mt I V' st ∧ V'.reg 28 = top ∧ Kp I top V V'
  | .halt code st => ∃ V', GoH I V a k V' code ∧ Mt I V' st
  | .left tq st => ∃ V', Go I V a k V' tq ∧ Mt I V' st ∧ V'.reg 28 = top ∧ Kp I top V V'
/-- A routine that is called in a state, d words of the stack being free, ends in one of the ways of R. -/
def Real (I : Img) (name : ByteArray) (behind : Bool) (st : Vw) (d : Int) (R : Int → BO → Nat → Prop) : Prop :=
  ∀ V top ret, Mt I V st → V.reg 28 = top → V.reg 31 = ret → 0 ≤ ret → ret < I.size → I.lo ≤ top → top + d ≤ I.hi → ∃ o k, R ret o k ∧ Done I V (I.lab name) k top ret behind o

def Vw.args (st : Vw) (vs : List Int) : Vw := { st with reg := fun j => if 4 ≤ j ∧ j < 4 + vs.length then vs.getD (j - 4).toNat 0 else st.reg j }
def Vw.regs (st : Vw) : List Int → List Int → Vw
  | n :: r, v :: vs => (st.set n v).regs r vs
  | _, _ => st

/-- What an operation tells of its operands. -/
def wpOp (I : Img) (dep lk : Int) (op n : Int) (name : ByteArray) (at_ : Nat) (env vs : List Int) (st : Vw) (c : Nat) (Q : Int → Vw → Nat → Prop) (H : Int → Vw → Nat → Prop) : Prop :=
  if op = 1 then Q (n % 4294967296) st (c + 2)
  else if op = 2 then Q (env.getD n.toNat 0) st (c + 1)
  else if op = 3 then Q (st.reg n) st (c + 1)
  else if op = 4 then (vs.getD 1 0 = 0 → n ≠ 5 ∧ n ≠ 6) ∧ Q (alu n (vs.getD 0 0) (vs.getD 1 0)) st (c + 1)
  else if op = 5 then u32m (vs.getD 0 0 + n) < I.size ∧ ¬ I.stk (u32m (vs.getD 0 0 + n)) ∧ Q (st.mem (u32m (vs.getD 0 0 + n))) st (c + 1)
  else if op = 6 then ∃ d R, Real I name false (st.args vs) d R ∧ d ≤ dep ∧ ∀ ret o k, R ret o k → (match o with
    | .ret st2 => Q (st2.reg 4) st2 (c + 2 * at_ + vs.length + 4 + k)
    | .halt code st2 => H code st2 (c + 2 * at_ + vs.length + 4 + k)
    | .left _ _ => False)
  else if op = 7 then Q (if vs.getD 0 0 = vs.getD 1 0 then 1 else 0) st (c + 3)
  else if op = 8 then Q (inByte st.inp) { st with inp := st.inp.tail } (c + 1)
  else if op = 9 then Q (I.lab name) st (c + 2)
  else if op = 10 then Q lk st (c + 1)
  else False
mutual
def wpE (I : Img) (dep lk : Int) (env : List Int) : BE → Nat → Vw → Nat → (Int → Vw → Nat → Prop) → (Int → Vw → Nat → Prop) → Prop
  | .mk op n name kids, at_, st, c, Q, H => wpEs I dep lk env kids at_ st c (fun vs st1 c1 => wpOp I dep lk op n name at_ env vs st1 c1 Q H) H
def wpEs (I : Img) (dep lk : Int) (env : List Int) : List BE → Nat → Vw → Nat → (List Int → Vw → Nat → Prop) → (Int → Vw → Nat → Prop) → Prop
  | [], _, st, c, Q, _ => Q [] st c
  | e :: r, at_, st, c, Q, H => wpE I dep lk env e at_ st c (fun v st1 c1 => wpEs I dep lk env r (at_ + 1) st1 c1 (fun vs st2 c2 => Q (v :: vs) st2 c2) H) H
end

mutual
def wpS (I : Img) (dep lk : Int) (behind : Bool) : BS → List Int → Vw → Nat → (List Int → Vw → Nat → Prop) → (BO → Nat → Prop) → Prop
  | .mk op n name exprs regs body els, env, st, c, Q, R =>
    if op = 4 then
      ∃ J : List Int → Vw → Nat → Nat → Prop, (∃ k, J env st c k) ∧ ∀ env st c k, J env st c k →
        wpEs I dep lk env exprs 0 st c (fun vs st1 c1 => if vs.getD 0 0 = 0 then Q env st1 (c1 + 4) else
          wpSs I dep lk behind body env st1 (c1 + 4) (fun env2 st2 c2 => ∃ k2, k2 < k ∧ J env2 st2 (c2 + 3) k2) R) (fun code st c => R (.halt code st) c)
    else
      wpEs I dep lk env exprs 0 st c (fun vs st1 c1 =>
        if op = 1 then Q (env.set n.toNat (vs.getD 0 0)) st1 (c1 + 1)
        else if op = 2 then u32m (vs.getD 0 0 + n) < I.size ∧ ¬ I.stk (u32m (vs.getD 0 0 + n)) ∧ ¬ I.code (u32m (vs.getD 0 0 + n)) ∧ Q env (st1.sto (u32m (vs.getD 0 0 + n)) (vs.getD 1 0)) (c1 + 1)
        else if op = 3 then (if vs.getD 0 0 = 0 then wpSs I dep lk behind els env st1 (c1 + 4) Q R else wpSs I dep lk behind body env st1 (c1 + 4) (fun env2 st2 c2 => Q env2 st2 (c2 + 3)) R)
        else if op = 5 then R (.ret (st1.regs regs vs)) (c1 + regs.length + (if behind = true then 5 else 3))
        else if op = 6 then Q env st1 c1
        else if op = 7 then Q env { st1 with out := st1.out ++ [vs.getD 0 0 % 256] } (c1 + 1)
        else if op = 8 then R (.halt (vs.getD 0 0) st1) (c1 + 1)
        else if op = 9 then Q env (st1.set n (vs.getD 0 0)) (c1 + 1)
        else if op = 10 then R (.left (I.lab name) st1) (c1 + 4)
        else if op = 11 then R (.left (vs.getD 0 0) st1) (c1 + 2)
        else False) (fun code st c => R (.halt code st) c)
def wpSs (I : Img) (dep lk : Int) (behind : Bool) : List BS → List Int → Vw → Nat → (List Int → Vw → Nat → Prop) → (BO → Nat → Prop) → Prop
  | [], env, st, c, Q, _ => Q env st c
  | s :: r, env, st, c, Q, R => wpS I dep lk behind s env st c (fun env1 st1 c1 => wpSs I dep lk behind r env1 st1 c1 Q R) R
end

/-- Items stand in an image from a place on, their own labels told wholly, within the code. -/
structure Seg (I : Img) (obj : ByteArray) (i : Nat) (ys : List Item) : Prop where
  at_ : ∀ k x, ys[k]? = some x → I.xs[i + k]? = some (ownItem obj x)
  lo : I.i0 ≤ i
  hi : i + ys.length ≤ I.i1
end S

theorem S.Seg.left {I : S.Img} {obj : ByteArray} {i : Nat} {ys zs : List S.Item} (h : S.Seg I obj i (ys ++ zs)) : S.Seg I obj i ys :=
  ⟨fun k x hx => h.at_ k x (by rw [List.getElem?_append_left (List.getElem?_eq_some_iff.1 hx).1]; exact hx), h.lo, by have := h.hi; rw [List.length_append] at this; omega⟩
theorem S.Seg.right {I : S.Img} {obj : ByteArray} {i : Nat} {ys zs : List S.Item} (h : S.Seg I obj i (ys ++ zs)) : S.Seg I obj (i + ys.length) zs :=
  ⟨fun k x hx => by
    have := h.at_ (ys.length + k) x (by rw [List.getElem?_append_right (by omega), Nat.add_sub_cancel_left]; exact hx)
    rw [← Nat.add_assoc] at this
    exact this, by have := h.lo; omega, by have := h.hi; rw [List.length_append] at this; omega⟩
theorem S.Seg.head {I : S.Img} {obj : ByteArray} {i : Nat} {y : S.Item} {ys : List S.Item} (h : S.Seg I obj i (y :: ys)) : I.xs[i]? = some (S.ownItem obj y) := h.at_ 0 y rfl
theorem S.Seg.tail {I : S.Img} {obj : ByteArray} {i : Nat} {y : S.Item} {ys : List S.Item} (h : S.Seg I obj i (y :: ys)) : S.Seg I obj (i + 1) ys := S.Seg.right (ys := [y]) h
theorem S.Seg.lt {I : S.Img} {obj : ByteArray} {i : Nat} {y : S.Item} {ys : List S.Item} (h : S.Seg I obj i (y :: ys)) : i < I.i1 := by have := h.hi; simp at this; omega
theorem S.Seg.one {I : S.Img} {obj : ByteArray} {i : Nat} {y : S.Item} {ys : List S.Item} (h : S.Seg I obj i (y :: ys)) : S.Seg I obj i [y] := S.Seg.left (zs := ys) h

theorem owned_no (obj : ByteArray) {s : ByteArray} (h : S.labB s = true) : S.owned obj s = s := by
  unfold S.owned
  rw [if_neg]
  intro h2
  unfold S.labB S.dotted at h
  unfold S.ownB at h2
  rw [h2] at h
  simp at h
theorem S.Mt.refl_ {I : S.Img} (V : S.Vw) : S.Mt I V V := ⟨fun _ _ => rfl, fun _ _ _ _ => rfl, rfl, rfl⟩
theorem S.Kp.refl (I : S.Img) (base : Int) (V : S.Vw) : S.Kp I base V V := fun _ _ _ => rfl
theorem S.Kp.trans {I : S.Img} {base : Int} {V V' V2 : S.Vw} (h : S.Kp I base V V') (h2 : S.Kp I base V' V2) : S.Kp I base V V2 := fun a h0 h1 => (h2 a h0 h1).trans (h a h0 h1)
theorem vis_hi {n : Int} (h : S.visB n = true) : n ≠ 25 ∧ n ≠ 28 ∧ n ≠ 31 ∧ n ≠ 0 ∧ (n ≤ 10 ∨ 26 ≤ n) ∧ 1 ≤ n ∧ n ≤ 30 := by
  unfold S.visB at h
  rw [decide_eq_true_eq] at h
  omega

end Go.Proofs.YtlldagdhlfpihaaGreatDoor
end
