/- Plain mathematics of layer 1: names, texts, and what a text is as an instruction. No program in sight. -/
import Derived.Test.YtidhglleeccpoaaDoorSpec
import Derived.Lib.ItoaNum
import Derived.Lib.AtoiAll
import Derived.Lib.Strings
set_option linter.unusedVariables false
set_option linter.unusedSimpArgs false
set_option linter.unusedSectionVars false
namespace Go.Proofs.YtidhglleeccpoaaDoor
namespace S

def nameTab : List (List UInt8) := [[], [97, 100, 100], [115, 117, 98], [109, 117, 108], [109, 117, 108, 104], [100, 105, 118], [114, 101, 109], [97, 110, 100], [111, 114], [120, 111, 114], [115, 108, 108], [115, 114, 108], [115, 114, 97], [115, 108, 116], [115, 108, 116, 117], [97, 100, 100, 105], [97, 110, 100, 105], [111, 114, 105], [120, 111, 114, 105], [115, 108, 108, 105], [115, 114, 108, 105], [115, 114, 97, 105], [115, 108, 116, 105], [108, 117, 105], [108, 119], [115, 119], [98, 101, 113], [98, 110, 101], [98, 108, 116], [98, 103, 101], [98, 108, 116, 117], [98, 103, 101, 117], [106, 97, 108], [106, 97, 108, 114], [105, 110], [111, 117, 116], [104, 97, 108, 116]]
def nameL (op : Int) : List UInt8 := if 0 ≤ op ∧ op < 37 then nameTab.getD op.toNat [] else []
/-- Digits, by structure. -/
def digF : Nat → Nat → List UInt8
  | 0, u => [UInt8.ofNat (48 + u % 10)]
  | f + 1, u => if u < 10 then [UInt8.ofNat (48 + u)] else digF f (u / 10) ++ [UInt8.ofNat (48 + u % 10)]
def itoa (n : Int) : List UInt8 := if n < 0 then 45 :: digF 20 n.natAbs else digF 20 n.toNat
def part (is : Bool) (mark : List UInt8) (n : Int) : List UInt8 := if is = true then 32 :: (mark ++ itoa n) else []
def text (x : Inst) : List UInt8 :=
  if good x = true then nameL x.op ++ (part (hasD (form x.op)) [114] x.d ++ (part (hasA (form x.op)) [114] x.a ++ (part (hasB (form x.op)) [114] x.b ++ part (decide (0 < bitsOf (form x.op))) [] x.imm))) else [63]

/-- A text cut at its spaces. -/
def words : List UInt8 → List (List UInt8)
  | [] => [[]]
  | c :: r => if c = 32 then [] :: words r else match words r with
    | [] => [[c]]
    | w :: t => (c :: w) :: t

def takeN (is : Bool) (f : List UInt8 → Int) (l : List (List UInt8)) : Int × List (List UInt8) :=
  if is = true then (match l with
    | [] => (0, [])
    | w :: r => (f w, r)) else (0, l)
/-- The instruction that a text's words may tell. -/
def cand (fr fi : List UInt8 → Int) (op : Int) (l : List (List UInt8)) : Inst :=
  let d := takeN (hasD (form op)) fr l
  let a := takeN (hasA (form op)) fr d.2
  let b := takeN (hasB (form op)) fr a.2
  let i := takeN (decide (0 < bitsOf (form op))) fi b.2
  ⟨op, d.1, a.1, b.1, i.1⟩
def parseFrom (fr fi : List UInt8 → Int) (s : List UInt8) (ws : List (List UInt8)) : Nat → Int → Inst × Int
  | 0, _ => (⟨0, 0, 0, 0, 0⟩, 11)
  | k + 1, op => if nameL op = ws.headD [] then (if text (cand fr fi op ws.tail) = s then (cand fr fi op ws.tail, 0) else parseFrom fr fi s ws k (op + 1)) else parseFrom fr fi s ws k (op + 1)
def parse (fr fi : List UInt8 → Int) (s : List UInt8) : Inst × Int := parseFrom fr fi s (words s) 36 1

/-- What isa's numbers are. -/
def atoiV (l : List UInt8) : Int := match Lib.atoiAll l with
  | .ok v => v
  | .range => Lib.atoiSat l
  | _ => 0
def numR (w : List UInt8) : Int := atoiV (Lib.trimPrefix w [114])
def numI (w : List UInt8) : Int := atoiV (Lib.trimPrefix w [])
/-- What the document's numbers are. -/
def refDig (n : Int) (c : UInt8) : Int := if 48 ≤ c.toNat ∧ c.toNat ≤ 57 then 10 * n + ((c.toNat : Int) - 48) else n
def refNum (w : List UInt8) : Int := if w.head? = some 45 then -((w.take 9).foldl refDig 0) else (w.take 9).foldl refDig 0
end S

/-! ### Digits -/
theorem digF_eq : ∀ (f u : Nat), u < 10 ^ (f + 1) → S.digF f u = Lib.decDigits u
  | 0, u, h => by
    have h' : u < 10 := by simpa using h
    rw [Lib.decDigits_one h']
    show [UInt8.ofNat (48 + u % 10)] = _
    rw [Nat.mod_eq_of_lt h']
  | f + 1, u, h => by
    show (if u < 10 then [UInt8.ofNat (48 + u)] else S.digF f (u / 10) ++ [UInt8.ofNat (48 + u % 10)]) = _
    by_cases hu : u < 10
    · rw [if_pos hu, Lib.decDigits_one hu]
    · rw [if_neg hu, digF_eq f (u / 10) (by rw [Nat.pow_succ] at h; omega)]
      conv => rhs; rw [Lib.decDigits, dif_neg hu]
theorem itoa_eq {n : Int} (h : -1000000000000000000000 < n ∧ n < 1000000000000000000000) : S.itoa n = Lib.itoa n := by
  have e : (10 : Nat) ^ (20 + 1) = 1000000000000000000000 := by decide
  unfold S.itoa Lib.itoa
  split
  · rw [digF_eq 20 _ (by rw [e]; omega)]
  · rw [digF_eq 20 _ (by rw [e]; omega)]

theorem dig_byte {k : Nat} (h : k < 10) : (UInt8.ofNat (48 + k)).toNat = 48 + k := by
  rw [UInt8.toNat_ofNat']
  omega
theorem digF_mem : ∀ (f u : Nat) (c : UInt8), c ∈ S.digF f u → 48 ≤ c.toNat ∧ c.toNat ≤ 57
  | 0, u, c, h => by
    obtain rfl := List.mem_singleton.1 h
    rw [dig_byte (by omega)]; omega
  | f + 1, u, c, h => by
    simp only [S.digF] at h
    split at h
    · obtain rfl := List.mem_singleton.1 h
      rw [dig_byte (by omega)]; omega
    · rcases List.mem_append.1 h with h | h
      · exact digF_mem f _ c h
      · obtain rfl := List.mem_singleton.1 h
        rw [dig_byte (by omega)]; omega
theorem digF_ne : ∀ (f u : Nat), S.digF f u ≠ []
  | 0, u => by simp [S.digF]
  | f + 1, u => by
    simp only [S.digF]
    split <;> simp
theorem itoa_no_space (n : Int) : (32 : UInt8) ∉ S.itoa n := by
  unfold S.itoa
  intro h
  split at h
  · rcases List.mem_cons.1 h with h | h
    · exact absurd h (by decide)
    · have := digF_mem _ _ _ h
      exact absurd this.1 (by decide)
  · have := digF_mem _ _ _ h
    exact absurd this.1 (by decide)

/-! ### Numbers out of digits -/
theorem parse_app (l1 : List UInt8) : ∀ (acc : Nat) (l2 : List UInt8), Lib.parseUint10 acc (l1 ++ l2) = (match Lib.parseUint10 acc l1 with | .ok v => Lib.parseUint10 v l2 | x => x) := by
  induction l1 with
  | nil => intro acc l2; rfl
  | cons c r ih =>
    intro acc l2
    simp only [List.cons_append, Lib.parseUint10]
    split
    · split
      · rfl
      · split
        · rfl
        · exact ih _ l2
    · rfl
theorem parse_dig : ∀ (f u : Nat), u < 10 ^ (f + 1) → u < 1844674407370955162 → Lib.parseUint10 0 (S.digF f u) = .ok u
  | 0, u, h, hu => by
    have h' : u < 10 := by simpa using h
    show Lib.parseUint10 0 [UInt8.ofNat (48 + u % 10)] = _
    rw [Nat.mod_eq_of_lt h']
    simp only [Lib.parseUint10, dig_byte h']
    rw [if_pos (by omega), if_neg (by omega), if_neg (by omega)]
    simp
  | f + 1, u, h, hu => by
    show Lib.parseUint10 0 (if u < 10 then [UInt8.ofNat (48 + u)] else S.digF f (u / 10) ++ [UInt8.ofNat (48 + u % 10)]) = _
    by_cases h10 : u < 10
    · rw [if_pos h10]
      simp only [Lib.parseUint10, dig_byte h10]
      rw [if_pos (by omega), if_neg (by omega), if_neg (by omega)]
      simp
    · rw [if_neg h10, parse_app, parse_dig f (u / 10) (by rw [Nat.pow_succ] at h; omega) (by omega)]
      have hm : u % 10 < 10 := Nat.mod_lt _ (by omega)
      simp only [Lib.parseUint10, dig_byte hm]
      rw [if_pos (by omega), if_neg (by omega), if_neg (by omega)]
      congr 1
      omega
theorem atoi_itoa {n : Int} (h : -1000000000 < n ∧ n < 1000000000) : S.atoiV (S.itoa n) = n := by
  have e : (10 : Nat) ^ (20 + 1) = 1000000000000000000000 := by decide
  unfold S.atoiV S.itoa
  by_cases hn : n < 0
  · rw [if_pos hn]
    have hp := parse_dig 20 n.natAbs (by rw [e]; omega) (by omega)
    have hne := digF_ne 20 n.natAbs
    simp only [Lib.atoiAll]
    rw [if_pos (by decide)]
    unfold Lib.parseMag
    rw [if_neg hne, hp]
    simp
    rw [if_neg (by omega)]
    simp
    omega
  · rw [if_neg hn]
    have hp := parse_dig 20 n.toNat (by rw [e]; omega) (by omega)
    have hne := digF_ne 20 n.toNat
    have hmem := digF_mem 20 n.toNat
    cases hl : S.digF 20 n.toNat with
    | nil => exact absurd hl hne
    | cons c r =>
      rw [hl] at hp hmem
      have hc := hmem c (by simp)
      simp only [Lib.atoiAll]
      rw [if_neg (by omega)]
      unfold Lib.parseMag
      rw [if_neg (by simp), hp]
      have hc45 : ¬ c.toNat = 45 := by omega
      simp [hc45]
      rw [if_neg (by omega)]
      simp
      omega
theorem trim_r (l : List UInt8) : Lib.trimPrefix (114 :: l) [114] = l := by
  unfold Lib.trimPrefix Lib.hasPrefix
  simp
theorem trim_no (l : List UInt8) : Lib.trimPrefix l [] = l := by
  unfold Lib.trimPrefix Lib.hasPrefix
  simp
theorem numR_itoa {n : Int} (h : 0 ≤ n ∧ n ≤ 31) : S.numR (114 :: S.itoa n) = n := by
  unfold S.numR
  rw [trim_r, atoi_itoa (by omega)]
theorem numI_itoa {n : Int} (h : -1048576 ≤ n ∧ n ≤ 1048575) : S.numI (S.itoa n) = n := by
  unfold S.numI
  rw [trim_no, atoi_itoa (by omega)]

theorem fold_dig : ∀ (f u : Nat), u < 10 ^ (f + 1) → (S.digF f u).foldl S.refDig 0 = u
  | 0, u, h => by
    have h' : u < 10 := by simpa using h
    show S.refDig 0 (UInt8.ofNat (48 + u % 10)) = _
    rw [Nat.mod_eq_of_lt h']
    unfold S.refDig
    rw [dig_byte h', if_pos (by omega)]
    omega
  | f + 1, u, h => by
    show (if u < 10 then [UInt8.ofNat (48 + u)] else S.digF f (u / 10) ++ [UInt8.ofNat (48 + u % 10)]).foldl S.refDig 0 = _
    by_cases h10 : u < 10
    · rw [if_pos h10]
      show S.refDig 0 (UInt8.ofNat (48 + u)) = _
      unfold S.refDig
      rw [dig_byte h10, if_pos (by omega)]
      omega
    · rw [if_neg h10, List.foldl_append, fold_dig f (u / 10) (by rw [Nat.pow_succ] at h; omega)]
      have hm : u % 10 < 10 := Nat.mod_lt _ (by omega)
      show S.refDig _ (UInt8.ofNat (48 + u % 10)) = _
      unfold S.refDig
      rw [dig_byte hm, if_pos (by omega)]
      omega
theorem digF_len : ∀ (f u : Nat), u < 10 ^ (f + 1) → ∀ k, u < 10 ^ k → 1 ≤ k → (S.digF f u).length ≤ k
  | 0, u, h, k, hk, h1 => by simpa [S.digF] using h1
  | f + 1, u, h, k, hk, h1 => by
    simp only [S.digF]
    split
    · simpa using h1
    · rename_i h10
      obtain ⟨j, rfl⟩ : ∃ j, k = j + 1 := ⟨k - 1, by omega⟩
      have hj : 1 ≤ j := by
        rcases j with _ | j
        · simp at hk; omega
        · omega
      have := digF_len f (u / 10) (by rw [Nat.pow_succ] at h; omega) j (by rw [Nat.pow_succ] at hk; omega) hj
      rw [List.length_append]
      simpa using this
theorem refNum_itoa {n : Int} (h : -1048576 ≤ n ∧ n ≤ 1048575) : S.refNum (S.itoa n) = n := by
  have e : (10 : Nat) ^ (20 + 1) = 1000000000000000000000 := by decide
  have e7 : (10 : Nat) ^ 7 = 10000000 := by decide
  unfold S.refNum S.itoa
  by_cases hn : n < 0
  · rw [if_pos hn]
    have hl := digF_len 20 n.natAbs (by rw [e]; omega) 7 (by rw [e7]; omega) (by decide)
    have hf := fold_dig 20 n.natAbs (by rw [e]; omega)
    rw [if_pos (by rfl), List.take_of_length_le (by simp; omega), List.foldl_cons]
    have h0 : S.refDig 0 45 = 0 := by decide
    rw [h0, hf]
    omega
  · rw [if_neg hn]
    have hl := digF_len 20 n.toNat (by rw [e]; omega) 7 (by rw [e7]; omega) (by decide)
    have hf := fold_dig 20 n.toNat (by rw [e]; omega)
    have hne := digF_ne 20 n.toNat
    have hmem := digF_mem 20 n.toNat
    have hh : ¬ (S.digF 20 n.toNat).head? = some 45 := by
      cases hd : S.digF 20 n.toNat with
      | nil => exact absurd hd hne
      | cons c r =>
        rw [hd] at hmem
        have := hmem c (by simp)
        intro h2
        simp only [List.head?_cons, Option.some.injEq] at h2
        subst h2
        exact absurd this.1 (by decide)
    rw [if_neg hh, List.take_of_length_le (by omega), hf]
    omega
theorem refNum_r {n : Int} (h : 0 ≤ n ∧ n ≤ 31) : S.refNum (114 :: S.itoa n) = n := by
  have e : (10 : Nat) ^ (20 + 1) = 1000000000000000000000 := by decide
  have e7 : (10 : Nat) ^ 7 = 10000000 := by decide
  unfold S.refNum S.itoa
  rw [if_neg (show ¬ n < 0 by omega)]
  have hl := digF_len 20 n.toNat (by rw [e]; omega) 7 (by rw [e7]; omega) (by decide)
  have hf := fold_dig 20 n.toNat (by rw [e]; omega)
  rw [if_neg (by simp), List.take_of_length_le (by simp; omega), List.foldl_cons]
  have h0 : S.refDig 0 114 = 0 := by decide
  rw [h0, hf]
  omega

/-! ### Words -/
theorem words_ne (s : List UInt8) : S.words s ≠ [] := by
  cases s with
  | nil => simp [S.words]
  | cons c r =>
    simp only [S.words]
    split
    · simp
    · split <;> simp
theorem words_one {w : List UInt8} (h : (32 : UInt8) ∉ w) : S.words w = [w] := by
  induction w with
  | nil => rfl
  | cons c r ih =>
    simp only [List.mem_cons, not_or] at h
    simp only [S.words]
    rw [if_neg (fun e => h.1 e.symm), ih h.2]
theorem words_more {w : List UInt8} (h : (32 : UInt8) ∉ w) (r : List UInt8) : S.words (w ++ 32 :: r) = w :: S.words r := by
  induction w with
  | nil => simp [S.words]
  | cons c t ih =>
    simp only [List.mem_cons, not_or] at h
    simp only [List.cons_append, S.words]
    rw [if_neg (fun e => h.1 e.symm), ih h.2]

theorem name_facts : ∀ k : Fin 37, (32 : UInt8) ∉ S.nameL (k.val : Int) ∧ S.nameL (k.val : Int) ≠ [63] ∧ ∀ j : Fin 37, 1 ≤ k.val → S.nameL (j.val : Int) = S.nameL (k.val : Int) → j = k := by decide +kernel
theorem name_no_space (op : Int) : (32 : UInt8) ∉ S.nameL op := by
  by_cases h : 0 ≤ op ∧ op < 37
  · have := (name_facts ⟨op.toNat, by omega⟩).1
    have e : ((op.toNat : Nat) : Int) = op := by omega
    simpa [e] using this
  · unfold S.nameL; rw [if_neg h]; simp
theorem name_not_q (op : Int) : S.nameL op ≠ [63] := by
  by_cases h : 0 ≤ op ∧ op < 37
  · have := (name_facts ⟨op.toNat, by omega⟩).2.1
    have e : ((op.toNat : Nat) : Int) = op := by omega
    simpa [e] using this
  · unfold S.nameL; rw [if_neg h]; simp
theorem name_inj {op op' : Int} (h : 1 ≤ op ∧ op ≤ 36) (h' : 0 ≤ op' ∧ op' ≤ 36) (he : S.nameL op' = S.nameL op) : op' = op := by
  have := (name_facts ⟨op.toNat, by omega⟩).2.2 ⟨op'.toNat, by omega⟩ (by show 1 ≤ op.toNat; omega) (by
    have e : ((op.toNat : Nat) : Int) = op := by omega
    have e' : ((op'.toNat : Nat) : Int) = op' := by omega
    show S.nameL ((op'.toNat : Nat) : Int) = S.nameL ((op.toNat : Nat) : Int)
    rw [e, e', he])
  have h2 : op'.toNat = op.toNat := congrArg Fin.val this
  omega

/-! ### A text is parsed as the instruction that has it -/
structure Nums (fr fi : List UInt8 → Int) : Prop where
  r : ∀ n : Int, 0 ≤ n ∧ n ≤ 31 → fr (114 :: S.itoa n) = n
  i : ∀ n : Int, -1048576 ≤ n ∧ n ≤ 1048575 → fi (S.itoa n) = n
theorem nums_isa : Nums S.numR S.numI := ⟨fun n h => numR_itoa h, fun n h => numI_itoa h⟩
theorem nums_ref : Nums S.refNum S.refNum := ⟨fun n h => refNum_r h, fun n h => refNum_itoa h⟩

theorem r_no_space (n : Int) : (32 : UInt8) ∉ (114 :: S.itoa n) := by
  intro h
  rcases List.mem_cons.1 h with h | h
  · exact absurd h (by decide)
  · exact itoa_no_space n h

theorem words_r (n : Int) (r : List UInt8) : S.words (114 :: (S.itoa n ++ 32 :: r)) = (114 :: S.itoa n) :: S.words r := words_more (r_no_space n) r
theorem words_r1 (n : Int) : S.words (114 :: S.itoa n) = [114 :: S.itoa n] := words_one (r_no_space n)
theorem words_i1 (n : Int) : S.words (S.itoa n) = [S.itoa n] := words_one (itoa_no_space n)
theorem inst_mk5 {op d a b imm op' d' a' b' imm' : Int} (h0 : op = op') (h1 : d = d') (h2 : a = a') (h3 : b = b') (h4 : imm = imm') : (⟨op, d, a, b, imm⟩ : S.Inst) = ⟨op', d', a', b', imm'⟩ := by
  subst h0 h1 h2 h3 h4; rfl

theorem cand_text {fr fi : List UInt8 → Int} (hN : Nums fr fi) {x : S.Inst} (h : S.good x = true) : (S.words (S.text x)).headD [] = S.nameL x.op ∧ S.cand fr fi x.op (S.words (S.text x)).tail = x := by
  obtain ⟨op, d, a, b, imm⟩ := x
  obtain ⟨o1, o2, d1, d2, a1, a2, b1, b2, hw⟩ := good_ways h
  have hg := h
  simp only [S.good, Bool.and_eq_true, decide_eq_true_eq, S.reg] at hg
  obtain ⟨⟨⟨⟨⟨_, g2⟩, g3⟩, g4⟩, g5⟩, g6⟩ := hg
  have hn := name_no_space op
  have hi := itoa_no_space imm
  have hrd := r_no_space d
  have hra := r_no_space a
  have hrb := r_no_space b
  have fd := hN.r d ⟨d1, d2⟩
  have fa := hN.r a ⟨a1, a2⟩
  have fb := hN.r b ⟨b1, b2⟩
  have fim : fi (S.itoa imm) = imm := hN.i imm (by rcases hw with hw | hw | hw | hw | hw | hw | hw <;> omega)
  unfold S.text
  rw [if_pos h]
  simp only
  rcases hw with ⟨hf, hD, hA, hB, hI, i1, i2⟩ | ⟨hf, hD, hA, hB, hI, i1, i2⟩ | ⟨hf, hD, hA, hB, hI, i1, i2⟩ | ⟨hf, hD, hA, hB, hI, i1, i2⟩ | ⟨hf, hD, hA, hB, hI, i1, i2⟩ | ⟨hf, hD, hA, hB, hI, i1, i2⟩ | ⟨hf, hD, hA, hB, hI, i1, i2⟩
  all_goals
    rw [hD] at g2
    rw [hA] at g3
    rw [hB] at g4
    simp at g2 g3 g4
    simp only [hD, hA, hB, hI, S.part, S.cand, S.takeN]
    simp only [if_true, List.nil_append, List.append_nil, List.cons_append, List.singleton_append, Bool.false_eq_true, if_false, decide_true, decide_false, Int.lt_irrefl, show (0 : Int) < 16 by decide, show (0 : Int) < 21 by decide]
  all_goals
    simp only [words_more hn, words_r, words_r1, words_i1, List.headD_cons, List.tail_cons, fd, fa, fb, fim]
    refine ⟨trivial, inst_mk5 rfl ?_ ?_ ?_ ?_⟩ <;> first | rfl | omega

theorem text_good {x : S.Inst} (h : S.good x = true) : S.text x ≠ [63] := fun e => by
  have h1 := (cand_text nums_isa h).1
  rw [e] at h1
  exact name_not_q x.op h1.symm
theorem good_of_text {x : S.Inst} {s : List UInt8} (h : S.text x = s) (hs : s ≠ [63]) : S.good x = true := by
  cases hg : S.good x with
  | true => rfl
  | false =>
    exfalso
    apply hs
    rw [← h]
    unfold S.text
    rw [if_neg (by rw [hg]; simp)]
theorem good_op {x : S.Inst} (h : S.good x = true) : 1 ≤ x.op ∧ x.op ≤ 36 := by
  obtain ⟨op, d, a, b, imm⟩ := x
  obtain ⟨o1, o2, _⟩ := good_ways h
  exact ⟨o1, o2⟩

/-- A text is parsed as the instruction that has it. -/
theorem parse_at {fr fi : List UInt8 → Int} (hN : Nums fr fi) {x : S.Inst} (h : S.good x = true) : ∀ (k : Nat) (op : Int), 1 ≤ op → op ≤ x.op → x.op < op + k → S.parseFrom fr fi (S.text x) (S.words (S.text x)) k op = (x, 0)
  | 0, op, _, _, h3 => by omega
  | k + 1, op, h1, h2, h3 => by
    obtain ⟨e1, e2⟩ := cand_text hN h
    have ho := good_op h
    unfold S.parseFrom
    rw [e1]
    by_cases hop : op = x.op
    · rw [if_pos (by rw [hop]), hop, e2, if_pos rfl]
    · rw [if_neg (fun e => hop (name_inj ho ⟨by omega, by omega⟩ e))]
      exact parse_at hN h k (op + 1) (by omega) (by omega) (by omega)
theorem parse_text {fr fi : List UInt8 → Int} (hN : Nums fr fi) {x : S.Inst} (h : S.good x = true) : S.parse fr fi (S.text x) = (x, 0) :=
  parse_at hN h 36 1 (by omega) (good_op h).1 (by have := (good_op h).2; omega)
/-- What is parsed has the text; what is not parsed is no text. -/
theorem parse_ways (fr fi : List UInt8 → Int) (s : List UInt8) : ∀ (k : Nat) (op : Int), (S.parseFrom fr fi s (S.words s) k op = (⟨0, 0, 0, 0, 0⟩, 11)) ∨ (∃ x, S.good x = true ∧ S.text x = s ∧ S.parseFrom fr fi s (S.words s) k op = (x, 0))
  | 0, op => .inl rfl
  | k + 1, op => by
    unfold S.parseFrom
    by_cases hn : S.nameL op = (S.words s).headD []
    · rw [if_pos hn]
      by_cases ht : S.text (S.cand fr fi op (S.words s).tail) = s
      · rw [if_pos ht]
        refine .inr ⟨_, good_of_text ht (fun e => ?_), ht, rfl⟩
        rw [e] at hn
        exact name_not_q op hn
      · rw [if_neg ht]
        exact parse_ways fr fi s k (op + 1)
    · rw [if_neg hn]
      exact parse_ways fr fi s k (op + 1)
theorem parse_cases (fr fi : List UInt8 → Int) (hN : Nums fr fi) (s : List UInt8) : (S.parse fr fi s = (⟨0, 0, 0, 0, 0⟩, 11) ∧ ∀ x, S.good x = true → S.text x ≠ s) ∨ (∃ x, S.good x = true ∧ S.text x = s ∧ S.parse fr fi s = (x, 0)) := by
  rcases parse_ways fr fi s 36 1 with h | h
  · refine .inl ⟨h, fun x hx e => ?_⟩
    have h2 := parse_text hN hx
    rw [e] at h2
    have h3 : ((⟨0, 0, 0, 0, 0⟩ : S.Inst), (11 : Int)) = (x, 0) := h.symm.trans h2
    have h4 : (11 : Int) = 0 := congrArg Prod.snd h3
    exact absurd h4 (by decide)
  · exact .inr h
/-- Both parse alike. -/
theorem parse_alike (s : List UInt8) : S.parse S.numR S.numI s = S.parse S.refNum S.refNum s := by
  rcases parse_cases _ _ nums_isa s with ⟨h, hno⟩ | ⟨x, hx, rfl, h⟩
  · rcases parse_cases _ _ nums_ref s with ⟨h2, _⟩ | ⟨x, hx, e, h2⟩
    · rw [h, h2]
    · exact absurd e (hno x hx)
  · rw [h, parse_text nums_ref hx]
theorem text_inj {x y : S.Inst} (hx : S.good x = true) (hy : S.good y = true) (h : S.text x = S.text y) : x = y := by
  have h1 := parse_text nums_isa hx
  rw [h, parse_text nums_isa hy] at h1
  exact (congrArg Prod.fst h1).symm
/-- Texts are short. -/
theorem name_short : ∀ k : Fin 37, (S.nameL (k.val : Int)).length ≤ 5 := by decide +kernel
theorem itoa_short {n : Int} (h : -10000000 < n ∧ n < 10000000) : (S.itoa n).length ≤ 8 := by
  have e : (10 : Nat) ^ (20 + 1) = 1000000000000000000000 := by decide
  have e7 : (10 : Nat) ^ 7 = 10000000 := by decide
  unfold S.itoa
  split
  · have := digF_len 20 n.natAbs (by rw [e]; omega) 7 (by rw [e7]; omega) (by decide)
    simp; omega
  · have := digF_len 20 n.toNat (by rw [e]; omega) 7 (by rw [e7]; omega) (by decide)
    omega
theorem part_short (is : Bool) (mark : List UInt8) {n : Int} (hm : mark.length ≤ 1) (h : -10000000 < n ∧ n < 10000000) : (S.part is mark n).length ≤ 10 := by
  unfold S.part
  have := itoa_short h
  split
  · simp; omega
  · simp
theorem text_short {x : S.Inst} (h : S.good x = true) : (S.text x).length ≤ 60 := by
  have ho := good_op h
  obtain ⟨op, d, a, b, imm⟩ := x
  obtain ⟨o1, o2, d1, d2, a1, a2, b1, b2, hw⟩ := good_ways h
  have hi : -10000000 < imm ∧ imm < 10000000 := by rcases hw with hw | hw | hw | hw | hw | hw | hw <;> omega
  have hn : (S.nameL op).length ≤ 5 := by
    have := name_short ⟨op.toNat, by omega⟩
    have e : ((op.toNat : Nat) : Int) = op := by omega
    simpa [e] using this
  unfold S.text
  rw [if_pos h]
  simp only [List.length_append]
  have p1 := part_short (S.hasD (S.form op)) [114] (n := d) (by simp) (by omega)
  have p2 := part_short (S.hasA (S.form op)) [114] (n := a) (by simp) (by omega)
  have p3 := part_short (S.hasB (S.form op)) [114] (n := b) (by simp) (by omega)
  have p4 := part_short (decide (0 < S.bitsOf (S.form op))) [] (n := imm) (by simp) hi
  omega

end Go.Proofs.YtidhglleeccpoaaDoor
