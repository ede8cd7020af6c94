/- BReal, BImg, BChkI: joined.  Plain: the items of a routine that may be are such as may be. No program in sight. -/
import Derived.Test.YtlldagdhlfpihaaGreatDoorZBRun
section
set_option linter.unusedVariables false
set_option linter.unusedSimpArgs false
set_option linter.unusedSectionVars false
namespace Go.Proofs.YtlldagdhlfpihaaGreatDoor
open Go.RowKit

theorem params_len : ∀ k, (S.bParams k).length = k
  | 0 => rfl
  | k + 1 => by rw [S.bParams, List.length_append, params_len k]; rfl

section
variable {I : S.Img} {L dep lk base : Int} (cx : S.Cx I L dep lk base) {obj : ByteArray}
include cx
theorem go_params {V : S.Vw} {i : Nat} (hsp : V.reg 28 = base) : ∀ k : Nat, k ≤ 4 → S.Seg I obj i (S.bParams k) → ∃ V', S.Go I V (I.adr i) k V' (I.adr (i + k)) ∧ V'.reg = V.reg ∧ (∀ j : Nat, j < k → V'.mem (base + 1 + j) = V.reg (4 + j)) ∧
    (∀ a : Int, a < base + 1 ∨ base + 1 + k ≤ a → V'.mem a = V.mem a) ∧ V'.inp = V.inp ∧ V'.out = V.out
  | 0, _, _ => ⟨V, go_refl _ _ _, rfl, fun j hj => by omega, fun _ _ => rfl, rfl, rfl⟩
  | k + 1, hk, hs => by
    obtain ⟨V1, h1, h2, h3, h4, h5, h6⟩ := go_params hsp k (by omega) hs.left
    have hs2 := hs.right
    rw [params_len] at hs2
    obtain ⟨ok, lo, top, dep0, L0, _, _, _⟩ := cx
    have q1 := ok.lo0
    have q2 := ok.hisz
    have q3 := ok.size2
    have ep : base + 1 + (k : Int) = S.u32m (V1.reg 28 + (1 + (k : Int))) := by rw [h2, hsp]; unfold S.u32m; omega
    have hc : ¬ I.code (base + 1 + k) := by
      rintro ⟨c0, c1⟩
      rcases ok.apart with h | h <;> omega
    have h7 := go_sw ok hs2.lo hs2.lt (V := V1) hs2.head (by decide) (by omega) ep (by omega) hc
    refine ⟨_, h1.trans h7, h2, fun j hj => ?_, fun a ha => ?_, h5, h6⟩
    · by_cases c : j = k
      · subst c
        rw [vsto_same, h2]
      · rw [vsto_other _ _ (by omega)]; exact h3 j (by omega)
    · rw [vsto_other _ _ (by omega)]; exact h4 a (by omega)
end

theorem chkB_parts {r : S.BR} (h : S.chkB r = 0) : S.labB r.name = true ∧ 0 ≤ r.params ∧ r.params ≤ 4 ∧ r.params ≤ r.locals ∧ r.locals ≤ 200 ∧ S.chkSs r.locals r.body 0 = 0 := by
  unfold S.chkB at h
  split at h
  · omega
  · rename_i hc
    simp only [Bool.not_eq_true, Bool.or_eq_false_iff, Bool.not_eq_false', decide_eq_false_iff_not] at hc
    obtain ⟨⟨⟨⟨h1, h2⟩, h3⟩, h4⟩, h5⟩ := hc
    exact ⟨h1, by omega, by omega, by omega, by omega, h⟩
theorem getD_map_range (f : Nat → Int) (n k : Nat) (h : k < n) : ((List.range n).map f).getD k 0 = f k := by
  simp [h]

theorem real_of {I : S.Img} (hI : I.Ok) (r : S.BR) (hc : S.chkB r = 0) {i : Nat} (hs : S.Seg I r.name i (S.bItems r)) {dep : Int} (hdep : 0 ≤ dep) (st : S.Vw) (R : Int → S.BO → Nat → Prop)
    (hw : ∀ (lk : Int) (env : List Int), 0 ≤ lk → lk < I.size → (env.length : Int) = r.locals → (∀ k : Nat, (k : Int) < r.params → env.getD k 0 = st.reg (4 + k)) →
      S.wpSs I dep lk r.behind r.body env st (r.params.toNat + 2) (fun _ st' c' => R lk (.ret st') (c' + (if r.behind = true then 5 else 3))) (R lk)) :
    S.Real I r.name r.behind st (r.locals + 15 + dep) R := by
  obtain ⟨hn, p0, p4, pL, L200, hbody⟩ := chkB_parts hc
  intro V top ret hmt hsp h31 r0 r1 hlo hhi
  have cx : S.Cx I r.locals dep ret top := ⟨hI, hlo, by omega, hdep, by omega, L200, r0, r1⟩
  have q1 := hI.lo0
  have q2 := hI.hisz
  have q3 := hI.size2
  have hfr : S.frameB r = r.locals + 15 := by unfold S.frameB; rw [if_neg (by simp [hc])]
  obtain ⟨np, hnp⟩ : ∃ np, np = r.params.toNat := ⟨_, rfl⟩
  unfold S.bItems S.bHead at hs
  rw [hfr, ← hnp] at hs
  have hsA : S.Seg I r.name i ([S.bL r.name, S.bI 25 0 28 31 0] : List S.Item) := hs.left.left.left.left
  have hsP : S.Seg I r.name (i + 2) (S.bParams np) := hs.left.left.left.right
  have hsQ : S.Seg I r.name (i + 2 + np) [S.bI 15 28 28 0 (r.locals + 15)] := by
    have h := hs.left.left.right
    rw [List.length_append, params_len] at h
    have e : i + (([S.bL r.name, S.bI 25 0 28 31 0] : List S.Item).length + np) = i + 2 + np := by simp; omega
    rw [e] at h; exact h
  have hsB : S.Seg I r.name (i + 2 + np + 1) (S.bStmts (r.locals + 15) r.locals r.behind r.body 0).1 := by
    have h := hs.left.right
    rw [List.length_append, List.length_append, params_len] at h
    have e : i + (([S.bL r.name, S.bI 25 0 28 31 0] : List S.Item).length + np + ([S.bI 15 28 28 0 (r.locals + 15)] : List S.Item).length) = i + 2 + np + 1 := by simp; omega
    rw [e] at h; exact h
  have hsR : S.Seg I r.name (i + 2 + np + 1 + (S.bStmts (r.locals + 15) r.locals r.behind r.body 0).1.length) (S.bBack (r.locals + 15) r.behind) := by
    have h := hs.right
    rw [List.length_append, List.length_append, List.length_append, params_len] at h
    have e : i + (([S.bL r.name, S.bI 25 0 28 31 0] : List S.Item).length + np + ([S.bI 15 28 28 0 (r.locals + 15)] : List S.Item).length + (S.bStmts (r.locals + 15) r.locals r.behind r.body 0).1.length) = i + 2 + np + 1 + (S.bStmts (r.locals + 15) r.locals r.behind r.body 0).1.length := by simp; omega
    rw [e] at h; exact h
  have hlab : I.lab r.name = I.adr i := by
    have := lab_at cx hsA
    rw [owned_no _ hn] at this
    exact this
  -- the label, and where it was called from
  have g0 := go_label hI hsA.lo hsA.lt (V := V) hsA.head
  have et : top = S.u32m (V.reg 28 + 0) := by rw [hsp]; unfold S.u32m; omega
  have hct : ¬ I.code top := by
    rintro ⟨c0, c1⟩
    rcases hI.apart with h | h <;> omega
  have g1 := go_sw hI hsA.tail.lo hsA.tail.lt (V := V) (a := 28) (b := 31) (n := 0) hsA.tail.head (by decide) (by decide) et (by omega) hct
  rw [h31] at g1
  -- the arguments
  obtain ⟨V2, g2, e2r, e2a, e2m, e2i, e2o⟩ := go_params cx (V := V.sto top ret) hsp np (by omega) hsP
  have g3 := go_addi hI hsQ.lo hsQ.lt (V := V2) (d := 28) (a := 28) (n := r.locals + 15) hsQ.head (by decide) (by decide) (by decide)
  have e3 : S.u32m (V2.reg 28 + (r.locals + 15)) = top + r.locals + 15 := by
    have : V2.reg 28 = top := by rw [e2r]; exact hsp
    rw [this]; unfold S.u32m; omega
  rw [e3] at g3
  have gg : S.Go I V (I.lab r.name) (np + 2) (V2.set 28 (top + r.locals + 15)) (I.adr (i + 2 + np + 1)) := by
    rw [hlab]
    exact (((g0.trans g1).trans g2).trans g3).more (by omega)
  have hmem : ∀ a : Int, a < top ∨ top + 1 + np ≤ a → (V2.set 28 (top + r.locals + 15)).mem a = V.mem a := fun a ha => by
    show V2.mem a = _
    rw [e2m a (by omega), vsto_other _ _ (by omega)]
  obtain ⟨env, henv⟩ : ∃ env : List Int, env = (List.range r.locals.toNat).map fun k : Nat => (V2.set 28 (top + r.locals + 15)).mem (top + 1 + (k : Int)) := ⟨_, rfl⟩
  have hel : env.length = r.locals.toNat := by rw [henv]; simp
  have hge : ∀ k : Nat, k < env.length → env.getD k 0 = (V2.set 28 (top + r.locals + 15)).mem (top + 1 + (k : Int)) := fun k hk => by
    rw [henv, getD_map_range _ _ _ (by rw [← hel]; exact hk)]
  have hF : S.Fm I (V2.set 28 (top + r.locals + 15)) st top ret env [] := by
    refine ⟨⟨fun j hj => ?_, fun a a0 a1 ha => ?_, ?_, ?_⟩, ?_, ?_, fun k hk => (hge k hk).symm, fun k hk => by simp at hk⟩
    · have := vis_hi hj
      rw [vset_other _ _ (by omega), e2r]
      exact hmt.vis j hj
    · by_cases hin : top ≤ a ∧ a < top + 1 + np
      · exact absurd ⟨by omega, by omega⟩ ha
      · rw [hmem a (by omega)]; exact hmt.mem a a0 a1 ha
    · show V2.inp = _; rw [e2i]; exact hmt.inp
    · show V2.out = _; rw [e2o]; exact hmt.out
    · rw [vset_same]; omega
    · show V2.mem top = ret
      rw [e2m top (by omega), vsto_same]
  have hargs : ∀ k : Nat, (k : Int) < r.params → env.getD k 0 = st.reg (4 + k) := fun k hk => by
    rw [hge k (by omega)]
    show V2.mem (top + 1 + (k : Int)) = _
    rw [e2a k (by omega)]
    exact hmt.vis _ (by unfold S.visB; rw [decide_eq_true_eq]; omega)
  have hL : (env.length : Int) = r.locals := by omega
  have hkp : S.Kp I top V (V2.set 28 (top + r.locals + 15)) := fun a a0 a1 => hmem a (by omega)
  have hb := hw ret env r0 r1 hL hargs
  rw [← hnp] at hb
  have h := sound_Ss cx (obj := r.name) (behind := r.behind) r.body 0 0 env _ st _ (np + 2) _ _ hL hbody hb hsB hF
  rcases h with ⟨env', st', c', V', h1, h2, h3, h4, h5, h6⟩ | ⟨o, c', h1, h2, h3⟩
  · have hbk := go_back cx (obj := r.name) (behind := r.behind) (r := []) h3 (by rw [List.append_nil]; exact hsR) h5
    have hd := Done_after h4 h6 hbk (Nat.le_refl _)
    refine ⟨.ret st', c' + (if r.behind = true then 5 else 3), h2, Done_after gg hkp hd ?_⟩
    omega
  · exact ⟨o, c', h2, Done_after gg hkp h3 (by omega)⟩

end Go.Proofs.YtlldagdhlfpihaaGreatDoor
end

section
set_option linter.unusedVariables false
set_option linter.unusedSimpArgs false
set_option linter.unusedSectionVars false
namespace Go.Proofs.YtlldagdhlfpihaaGreatDoor
open Go.RowKit

namespace S
/-- The labels that items tell, and those that they name. -/
def tells : List Item → List ByteArray
  | [] => []
  | x :: r => if x.kind = 2 then x.label :: tells r else tells r
def names : List Item → List ByteArray
  | [] => []
  | x :: r => if named x = true then x.label :: names r else names r
/-- Each item may be. -/
def allChk (xs : List Item) : Prop := ∀ x ∈ xs, chkItem x = 0
/-- How many words items have at the most. -/
def bulk : List Item → Int
  | [] => 0
  | x :: r => (if x.kind = 8 then x.word else 4) + bulk r
end S

theorem tells_append (a b : List S.Item) : S.tells (a ++ b) = S.tells a ++ S.tells b := by
  induction a with
  | nil => rfl
  | cons x r ih =>
    rw [List.cons_append, S.tells, S.tells, ih]
    split <;> rfl
theorem names_append (a b : List S.Item) : S.names (a ++ b) = S.names a ++ S.names b := by
  induction a with
  | nil => rfl
  | cons x r ih =>
    rw [List.cons_append, S.names, S.names, ih]
    split <;> rfl
theorem bulk_append (a b : List S.Item) : S.bulk (a ++ b) = S.bulk a + S.bulk b := by
  induction a with
  | nil => simp [S.bulk]
  | cons x r ih => rw [List.cons_append, S.bulk, S.bulk, ih]; omega
theorem mem_tells {xs : List S.Item} {s : ByteArray} (h : s ∈ S.tells xs) : ∃ x ∈ xs, x.kind = 2 ∧ x.label = s := by
  induction xs with
  | nil => cases h
  | cons y r ih =>
    rw [S.tells] at h
    split at h
    · rename_i c
      rcases List.mem_cons.1 h with rfl | h
      · exact ⟨y, List.mem_cons_self, c, rfl⟩
      · obtain ⟨x, hx, h⟩ := ih h
        exact ⟨x, List.mem_cons_of_mem _ hx, h⟩
    · obtain ⟨x, hx, h⟩ := ih h
      exact ⟨x, List.mem_cons_of_mem _ hx, h⟩
theorem tells_mem {xs : List S.Item} {x : S.Item} (h : x ∈ xs) (hk : x.kind = 2) : x.label ∈ S.tells xs := by
  induction xs with
  | nil => cases h
  | cons y r ih =>
    rw [S.tells]
    rcases List.mem_cons.1 h with rfl | h
    · rw [if_pos hk]; exact List.mem_cons_self
    · split
      · exact List.mem_cons_of_mem _ (ih h)
      · exact ih h
theorem names_mem {xs : List S.Item} {x : S.Item} (h : x ∈ xs) (hk : S.named x = true) : x.label ∈ S.names xs := by
  induction xs with
  | nil => cases h
  | cons y r ih =>
    rw [S.names]
    rcases List.mem_cons.1 h with rfl | h
    · rw [if_pos hk]; exact List.mem_cons_self
    · split
      · exact List.mem_cons_of_mem _ (ih h)
      · exact ih h
/-- Two items that tell one label are one, where no label is told twice. -/
theorem tells_one {xs : List S.Item} (hd : (S.tells xs).Nodup) {i j : Nat} {x y : S.Item} (hx : xs[i]? = some x) (hy : xs[j]? = some y) (kx : x.kind = 2) (ky : y.kind = 2) (h : x.label = y.label) : i = j := by
  induction xs generalizing i j with
  | nil => simp at hx
  | cons z r ih =>
    rw [S.tells] at hd
    have hr : (S.tells r).Nodup := by
      split at hd
      · exact (List.nodup_cons.1 hd).2
      · exact hd
    cases i with
    | zero =>
      cases j with
      | zero => rfl
      | succ j =>
        exfalso
        simp at hx hy
        subst hx
        rw [if_pos kx] at hd
        exact (List.nodup_cons.1 hd).1 (h ▸ tells_mem (List.mem_of_getElem? hy) ky)
    | succ i =>
      cases j with
      | zero =>
        exfalso
        simp at hx hy
        subst hy
        rw [if_pos ky] at hd
        exact (List.nodup_cons.1 hd).1 (h ▸ tells_mem (List.mem_of_getElem? hx) kx)
      | succ j =>
        simp at hx hy
        rw [ih hr hx hy]
theorem no_dup {xs : List S.Item} (hd : (S.tells xs).Nodup) : ¬ S.Dup xs := by
  rintro ⟨i, x, hx, hk, hs⟩
  rcases stands_spec xs x.label with ⟨h1, h2⟩ | ⟨j, y, h1, h2, h3, h4, _⟩
  · exact h2 i x hx ⟨hk, rfl⟩
  · exact hs (by rw [h1, tells_one hd h2 hx h3 hk h4])
theorem no_miss {xs : List S.Item} (hn : ∀ s ∈ S.names xs, s ∈ S.tells xs) : ¬ S.Miss xs := by
  rintro ⟨i, x, hx, hk, hs⟩
  obtain ⟨y, hy, ky, ly⟩ := mem_tells (hn _ (names_mem (List.mem_of_getElem? hx) hk))
  obtain ⟨j, hj, rfl⟩ := List.getElem_of_mem hy
  rcases stands_spec xs x.label with ⟨h1, h2⟩ | ⟨j, y, h1, h2, h3, h4, _⟩
  · exact h2 j _ (List.getElem?_eq_getElem hj) ⟨ky, ly⟩
  · omega
theorem firstErr_0 {xs : List S.Item} (h : S.allChk xs) : S.firstErr xs = 0 := by
  induction xs with
  | nil => rfl
  | cons x r ih =>
    rw [S.firstErr, if_neg (by rw [h x List.mem_cons_self]; simp)]
    exact ih fun y hy => h y (List.mem_cons_of_mem _ hy)
theorem addr_bulk {xs : List S.Item} {F : List Int} (hF : S.FormOk xs F) (hc : S.allChk xs) : ∀ n : Nat, n ≤ xs.length → S.addr xs F 0 n ≤ S.bulk (xs.take n)
  | 0, _ => by simp [S.addr, S.bulk]
  | n + 1, h => by
    have h1 := addr_bulk hF hc n (by omega)
    have hx : xs[n]? = some xs[n] := List.getElem?_eq_getElem h
    have h2 := hF.2 n _ hx
    have h3 := hc xs[n] (List.getElem_mem h)
    have e : xs.take (n + 1) = xs.take n ++ [xs[n]] := by rw [List.take_add_one, hx]; rfl
    rw [e, bulk_append]
    show S.addr xs F 0 n + S.sizeAt xs F n ≤ _
    unfold S.sizeAt
    rw [hx]
    have h4 : S.size xs[n] (F.getD n 0) ≤ (if xs[n].kind = 8 then xs[n].word else 4) := by
      unfold S.size
      generalize xs[n] = x at *
      grind
    simp only [S.bulk]
    omega
/-- Items that may be, whose labels are told once, and which name none but those, become an image. -/
theorem res_ok {xs : List S.Item} {e : Int} {F : List Int} (h : S.FormsRes xs 0 e F) (hc : S.allChk xs) (hd : (S.tells xs).Nodup) (hn : ∀ s ∈ S.names xs, s ∈ S.tells xs) (hb : S.bulk xs ≤ 67108864) :
    e = 0 ∧ S.FormOk xs F ∧ S.addr xs F 0 xs.length ≤ S.bulk xs := by
  have h0 : S.CheckRes xs 0 0 := .inr (.inr (.inr (.inr ⟨Int.le_refl _, by decide, firstErr_0 hc, no_dup hd, no_miss hn, rfl⟩)))
  have hl : ∀ G, S.FormOk xs G → S.addr xs G 0 xs.length ≤ S.bulk xs := fun G hG => by
    have := addr_bulk hG hc xs.length (Nat.le_refl _)
    rwa [List.take_length] at this
  rcases h with ⟨h1, h2, _⟩ | ⟨_, _, _, G, h3, h4⟩ | ⟨_, h2, h3, _, _⟩
  · exact absurd (checkRes_fun h2 h0) h1
  · have := hl G h3.1
    have : (67108864 : Int) < S.addr xs G 0 xs.length := h4
    omega
  · exact ⟨h2, h3.1, hl F h3.1⟩

/-! Where the words of an image stand -/
theorem out_at {xs : List S.Item} {F : List Int} (hF : S.FormOk xs F) (hk : ∀ x ∈ xs, 1 ≤ x.kind ∧ x.kind ≤ 8) (hw : ∀ x ∈ xs, 0 ≤ x.word ∧ x.word ≤ 4294967295) {i j : Nat} {w : Int} (hj : (S.wordsAt xs F 0 i)[j]? = some w) :
    ∀ n : Nat, i < n → (S.outTo xs F 0 n)[(S.addr xs F 0 i).toNat + j]? = some w
  | 0, h => by omega
  | n + 1, h => by
    rw [S.outTo]
    have hl := outTo_length (base := 0) hF hk hw n
    have hli := outTo_length (base := 0) hF hk hw i
    have hj2 := (List.getElem?_eq_some_iff.1 hj).1
    have hwi := wordsAt_length (base := 0) hF hk hw i
    by_cases c : i = n
    · subst c
      rw [List.getElem?_append_right (by omega)]
      have e : (S.addr xs F 0 i).toNat + j - (S.outTo xs F 0 i).length = j := by omega
      rw [e]; exact hj
    · have h1 := out_at hF hk hw hj n (by omega)
      rw [List.getElem?_append_left (List.getElem?_eq_some_iff.1 h1).1]
      exact h1

/-- An assembled image, all of which is code. -/
def S.imgOf (xs : List S.Item) (F : List Int) (size lo hi : Int) : S.Img := ⟨xs, F, size, 0, xs.length, lo, hi⟩
theorem img_ok {xs : List S.Item} {F : List Int} {size lo hi : Int} (h : S.FormsRes xs 0 0 F) (hw : ∀ x ∈ xs, 0 ≤ x.word ∧ x.word ≤ 4294967295) (h1 : S.addr xs F 0 xs.length < size) (h2 : size ≤ 335544320)
    (h3 : lo ≤ hi) (h4 : hi ≤ size) (h5 : S.addr xs F 0 xs.length ≤ lo) : (S.imgOf xs F size lo hi).Ok := by
  have hF : S.FormOk xs F := by
    rcases h with ⟨h, _⟩ | ⟨_, h, _⟩ | ⟨_, _, h, _⟩
    · exact absurd rfl h
    · omega
    · exact h.1
  have h0 : 0 ≤ S.addr xs F 0 xs.length := (addr_bd hF hw xs.length).1
  exact ⟨h, hw, Nat.zero_le _, Nat.le_refl _, h1, h2, Int.le_trans h0 h5, h3, h4, .inr h5⟩
/-- The words of an image, on a machine that is as large. -/
theorem img_in {xs : List S.Item} {F : List Int} {size lo hi : Int} (hI : (S.imgOf xs F size lo hi).Ok) (Z : List Int) : (S.imgOf xs F size lo hi).In (S.outTo xs F 0 xs.length ++ Z) := by
  intro i _ hi j w hj
  have h : (S.outTo xs F 0 xs.length)[(S.addr xs F 0 i).toNat + j]? = some w := out_at (img_forms hI) (kinds_ok (img_first hI)) hI.words hj xs.length hi
  show ((S.outTo xs F 0 xs.length ++ Z).getD ((S.addr xs F 0 i).toNat + j) 0) = w
  rw [List.getD_eq_getElem?_getD, List.getElem?_append_left (List.getElem?_eq_some_iff.1 h).1, h]
  rfl

/-! The items of a routine may be -/
theorem chk_inst {y : S.Inst} {s : ByteArray} {w : Int} (h : S.good y = true) : S.chkItem ⟨1, y, s, w⟩ = 0 := by
  simp [S.chkItem, S.chk, h]

end Go.Proofs.YtlldagdhlfpihaaGreatDoor
end

section
set_option linter.unusedVariables false
set_option linter.unusedSimpArgs false
set_option linter.unusedSectionVars false
namespace Go.Proofs.YtlldagdhlfpihaaGreatDoor
open Go.RowKit

theorem good_imm {op d a n : Int} (ho : op = 15 ∨ op = 24 ∨ op = 33) (hd : 0 ≤ d ∧ d ≤ 31) (ha : 0 ≤ a ∧ a ≤ 31) (hn : -32768 ≤ n ∧ n ≤ 32767) : S.good ⟨op, d, a, 0, n⟩ = true := by
  rcases ho with rfl | rfl | rfl
  · have hf : S.form 15 = 2 := by decide
    have hl : S.least 15 = -32768 ∧ S.most 15 = 32767 := by decide
    simp [S.good, hf, hl.1, hl.2, S.reg, S.hasD, S.hasA, S.hasB]
    omega
  · have hf : S.form 24 = 2 := by decide
    have hl : S.least 24 = -32768 ∧ S.most 24 = 32767 := by decide
    simp [S.good, hf, hl.1, hl.2, S.reg, S.hasD, S.hasA, S.hasB]
    omega
  · exact good_jalr hd ha hn
theorem good_sto {a b n : Int} (ha : 0 ≤ a ∧ a ≤ 31) (hb : 0 ≤ b ∧ b ≤ 31) (hn : -32768 ≤ n ∧ n ≤ 32767) : S.good ⟨25, 0, a, b, n⟩ = true := by
  have hf : S.form 25 = 4 := by decide
  have hl : S.least 25 = -32768 ∧ S.most 25 = 32767 := by decide
  simp [S.good, hf, hl.1, hl.2, S.reg, S.hasD, S.hasA, S.hasB]
  omega
theorem good_inB {d : Int} (hd : 0 ≤ d ∧ d ≤ 31) : S.good ⟨34, d, 0, 0, 0⟩ = true := by
  have hf : S.form 34 = 6 := by decide
  have hl : S.least 34 = 0 ∧ S.most 34 = 0 := by decide
  simp [S.good, hf, hl.1, hl.2, S.reg, S.hasD, S.hasA, S.hasB]
  omega
theorem good_outB {op a : Int} (ho : op = 35 ∨ op = 36) (ha : 0 ≤ a ∧ a ≤ 31) : S.good ⟨op, 0, a, 0, 0⟩ = true := by
  rcases ho with rfl | rfl
  · have hf : S.form 35 = 7 := by decide
    have hl : S.least 35 = 0 ∧ S.most 35 = 0 := by decide
    simp [S.good, hf, hl.1, hl.2, S.reg, S.hasD, S.hasA, S.hasB]
    omega
  · have hf : S.form 36 = 7 := by decide
    have hl : S.least 36 = 0 ∧ S.most 36 = 0 := by decide
    simp [S.good, hf, hl.1, hl.2, S.reg, S.hasD, S.hasA, S.hasB]
    omega

theorem allChk_nil : S.allChk [] := fun _ h => by cases h
theorem allChk_append {a b : List S.Item} (h : S.allChk a) (k : S.allChk b) : S.allChk (a ++ b) := fun x hx => (List.mem_append.1 hx).elim (h x) (k x)
theorem allChk_cons {x : S.Item} {b : List S.Item} (h : S.chkItem x = 0) (k : S.allChk b) : S.allChk (x :: b) := fun y hy => (List.mem_cons.1 hy).elim (fun e => e ▸ h) (k y)
theorem allChk_one {x : S.Item} (h : S.chkItem x = 0) : S.allChk [x] := allChk_cons h allChk_nil
theorem chk_bI {op d a b n : Int} (h : S.good ⟨op, d, a, b, n⟩ = true) : S.chkItem (S.bI op d a b n) = 0 := chk_inst h
theorem chk_bL (s : ByteArray) : S.chkItem (S.bL s) = 0 := by simp [S.chkItem, S.bL]
theorem chk_bJ {d : Int} (s : ByteArray) (hd : 0 ≤ d ∧ d ≤ 31) : S.chkItem (S.bJ d s) = 0 := by
  have h : S.regOk d = true := by unfold S.regOk; exact decide_eq_true hd
  simp [S.chkItem, S.bJ, h]
theorem chk_bA {d : Int} (s : ByteArray) (hd : 0 ≤ d ∧ d ≤ 31) : S.chkItem (S.bA d s) = 0 := by
  have h : S.regOk d = true := by unfold S.regOk; exact decide_eq_true hd
  simp [S.chkItem, S.bA, h]
theorem chk_bU {a : Int} (s : ByteArray) (ha : 0 ≤ a ∧ a ≤ 31) : S.chkItem (S.bU a s) = 0 := by
  have ht : S.turned 26 = 27 := by decide
  have h : S.regOk a = true := by unfold S.regOk; exact decide_eq_true ha
  have h0 : S.regOk 0 = true := by decide
  simp [S.chkItem, S.bU, h, h0, ht]
theorem chk_const {d n : Int} (hd : 0 ≤ d ∧ d ≤ 31) : S.allChk (S.bConst d n) := by
  unfold S.bConst
  split
  · exact allChk_one (chk_bI (good_imm (.inl rfl) hd (by decide) (by omega)))
  · exact allChk_cons (chk_bI (good_luiB hd (by omega))) (allChk_one (chk_bI (good_oriB hd hd (by omega))))

section
variable {L : Int} (hL : 0 ≤ L ∧ L ≤ 200)
include hL
theorem chk_load {d p : Int} (hd : 0 ≤ d ∧ d ≤ 31) (hp : 0 ≤ p ∧ p ≤ 1000) : S.chkItem (S.bLoad (L + 15) d p) = 0 := chk_bI (good_imm (.inr (.inl rfl)) hd (by decide) (by omega))
theorem chk_store {d p : Int} (hd : 0 ≤ d ∧ d ≤ 31) (hp : 0 ≤ p ∧ p ≤ 1000) : S.chkItem (S.bStore (L + 15) d p) = 0 := chk_bI (good_sto (by decide) hd (by omega))
theorem chk_move {d a : Int} (hd : 0 ≤ d ∧ d ≤ 31) (ha : 0 ≤ a ∧ a ≤ 31) : S.chkItem (S.bMove d a) = 0 := chk_bI (good_imm (.inl rfl) hd ha (by decide))
theorem chk_stores : ∀ k : Nat, k ≤ 14 → S.allChk (S.bStores (L + 15) L k) ∧ S.allChk (S.bLoads (L + 15) L k)
  | 0, _ => ⟨allChk_nil, allChk_nil⟩
  | k + 1, h => ⟨allChk_append (chk_stores k (by omega)).1 (allChk_one (chk_store hL (by omega) (by omega))), allChk_append (chk_stores k (by omega)).2 (allChk_one (chk_load hL (by omega) (by omega)))⟩
theorem chk_args {at_ : Nat} : ∀ k : Nat, at_ + k ≤ 14 → S.allChk (S.bArgs at_ k)
  | 0, _ => allChk_nil
  | k + 1, h => allChk_append (chk_args k (by omega)) (allChk_one (chk_move hL (by omega) (by omega)))
theorem chk_op {op n : Int} {name : ByteArray} {kids at_ : Nat} (hop : S.headE L op n name kids = true) (hat : at_ + max 1 kids ≤ 14) : S.allChk (S.bOp (L + 15) L op n name kids at_) := by
  unfold S.headE at hop
  simp only [Bool.and_eq_true, decide_eq_true_eq] at hop
  obtain ⟨⟨⟨⟨hr, hn⟩, hkk⟩, hnm⟩, hlb⟩ := hop
  unfold S.kidsE at hkk
  unfold S.bOp
  unfold S.numE at hn
  by_cases c1 : op = 1
  · rw [if_pos c1]; exact chk_const (by omega)
  rw [if_neg c1] at hn ⊢
  by_cases c2 : op = 2
  · rw [if_pos c2] at hn ⊢
    have hn' := of_decide_eq_true hn
    exact allChk_one (chk_load hL (by omega) (by omega))
  rw [if_neg c2] at hn ⊢
  by_cases c3 : op = 3
  · rw [if_pos c3] at hn ⊢
    have := vis_hi hn
    exact allChk_one (chk_move hL (by omega) (by omega))
  rw [if_neg c3] at hn ⊢
  by_cases c4 : op = 4
  · rw [if_pos c4] at hn ⊢
    rw [if_pos (.inl c4)] at hkk
    have hn' := of_decide_eq_true hn
    exact allChk_one (chk_bI (good_1 (by omega) (by omega) (by omega) (by omega)))
  rw [if_neg c4] at hn ⊢
  by_cases c5 : op = 5
  · rw [if_pos c5] at hn ⊢
    have hn' : -32768 ≤ n ∧ n < 32768 := of_decide_eq_true hn
    exact allChk_one (chk_bI (good_imm (.inr (.inl rfl)) (by omega) (by omega) (by omega)))
  rw [if_neg c5] at hn ⊢
  by_cases c6 : op = 6
  · rw [if_pos c6]
    unfold S.bCall
    exact allChk_append (allChk_append (allChk_append (allChk_append (chk_stores hL at_ (by omega)).1 (chk_args hL kids (by omega))) (allChk_one (chk_bJ _ (by decide)))) (chk_stores hL at_ (by omega)).2) (allChk_one (chk_move hL (by omega) (by decide)))
  rw [if_neg c6]
  by_cases c7 : op = 7
  · rw [if_pos c7]
    rw [if_pos (.inr c7)] at hkk
    exact allChk_append (allChk_append (allChk_one (chk_bI (good_1 (by decide) (by omega) (by omega) (by omega)))) (chk_const (by omega))) (allChk_one (chk_bI (good_1 (by decide) (by omega) (by omega) (by omega))))
  rw [if_neg c7]
  by_cases c8 : op = 8
  · rw [if_pos c8]; exact allChk_one (chk_bI (good_inB (by omega)))
  rw [if_neg c8]
  by_cases c9 : op = 9
  · rw [if_pos c9]; exact allChk_one (chk_bA _ (by omega))
  rw [if_neg c9]
  by_cases c10 : op = 10
  · rw [if_pos c10]; exact allChk_one (chk_load hL (by omega) (by decide))
  rw [if_neg c10]; exact allChk_nil
mutual
theorem chk_expr : ∀ (e : S.BE) (at_ : Nat), S.formedE L e = true → at_ + max 1 (S.needE e) ≤ 14 → S.allChk (S.bExpr (L + 15) L e at_)
  | .mk op n name kids, at_, hf, hn => by
    rw [S.formedE] at hf
    rw [S.needE] at hn
    rw [S.bExpr]
    simp only [Bool.and_eq_true] at hf
    have hk : kids.length ≤ max 1 (S.needEs kids 0) := by
      by_cases he : kids = []
      · subst he; simp
      · have := need_len kids 0 he; omega
    exact allChk_append (chk_exprs kids 0 at_ at_ hf.2 (by omega) (by omega)) (chk_op hL hf.1 (by omega))
theorem chk_exprs : ∀ (r : List S.BE) (j a0 at_ : Nat), S.formedEs L r = true → at_ = a0 + j → a0 + S.needEs r j ≤ 14 → S.allChk (S.bExprs (L + 15) L r at_)
  | [], j, a0, at_, _, _, _ => allChk_nil
  | e :: r, j, a0, at_, hf, ht, hn => by
    rw [S.formedEs] at hf
    rw [S.needEs] at hn
    rw [S.bExprs]
    simp only [Bool.and_eq_true] at hf
    exact allChk_append (chk_expr e at_ hf.1 (by omega)) (chk_exprs r (j + 1) a0 (at_ + 1) hf.2 (by omega) (by omega))
end
theorem chk_back (behind : Bool) : S.allChk (S.bBack (L + 15) behind) := by
  unfold S.bBack S.bPop
  refine allChk_append (allChk_cons (chk_bI (good_imm (.inl rfl) (by decide) (by decide) (by omega))) (allChk_one (chk_bI (good_imm (.inr (.inl rfl)) (by decide) (by decide) (by decide))))) ?_
  split
  · exact allChk_cons (chk_bI (good_imm (.inr (.inl rfl)) (by decide) (by decide) (by decide))) (allChk_cons (chk_bI (good_1 (by decide) (by decide) (by decide) (by decide))) (allChk_one (chk_bI (good_imm (.inr (.inr rfl)) (by decide) (by decide) (by decide)))))
  · exact allChk_one (chk_bI (good_imm (.inr (.inr rfl)) (by decide) (by decide) (by decide)))
theorem chk_regs : ∀ (r : List Int) (i : Nat), S.risingB r = true → i + r.length ≤ 14 → S.allChk (S.bRegs r i)
  | [], _, _, _ => allChk_nil
  | [a], i, h, hl => by
    have := vis_hi (show S.visB a = true from h)
    exact allChk_one (chk_move hL (by omega) (by simp at hl; omega))
  | a :: b :: r, i, h, hl => by
    unfold S.risingB at h
    simp only [Bool.and_eq_true] at h
    have := vis_hi h.1.1
    simp only [List.length_cons] at hl
    exact allChk_cons (chk_move hL (by omega) (by omega)) (chk_regs (b :: r) (i + 1) h.2 (by simp only [List.length_cons]; omega))
theorem chk_pop : S.chkItem (S.bPop (L + 15)) = 0 := chk_bI (good_imm (.inl rfl) (by decide) (by decide) (by omega))
mutual
theorem chk_stmt (behind : Bool) : ∀ (s : S.BS) (depth : Nat) (l : Int), S.chkS L s depth = 0 → S.allChk (S.bStmt (L + 15) L behind s l).1
  | .mk op n name exprs regs body els, depth, l, hc => by
    rw [S.chkS] at hc
    by_cases hf : (!(S.shapedS L op n name exprs.length regs body.length els.length && S.formedEs L exprs)) = true
    · rw [if_pos hf] at hc; exact absurd hc (by decide)
    rw [if_neg hf] at hc
    by_cases hd : 200 ≤ depth ∨ 14 < S.needEs exprs 0
    · rw [if_pos hd] at hc; exact absurd hc (by decide)
    rw [if_neg hd] at hc
    have hb : S.chkSs L body (depth + 1) = 0 ∧ S.chkSs L els (depth + 1) = 0 := by
      by_cases h : S.chkSs L body (depth + 1) ≠ 0
      · rw [if_pos h] at hc; exact absurd hc h
      · rw [if_neg h] at hc; exact ⟨by simpa using h, hc⟩
    obtain ⟨hsh, hfe⟩ : S.shapedS L op n name exprs.length regs body.length els.length = true ∧ S.formedEs L exprs = true := by
      simpa using hf
    have hne : S.needEs exprs 0 ≤ 14 := by omega
    unfold S.shapedS at hsh
    simp only [Bool.and_eq_true, decide_eq_true_eq] at hsh
    obtain ⟨⟨⟨⟨⟨⟨⟨⟨hop, hregs⟩, hris⟩, hbd⟩, hel⟩, hnum⟩, hex⟩, hnm⟩, hlb⟩ := hsh
    have hE := chk_exprs hL exprs 0 0 0 hfe rfl (by omega)
    have hB := fun l => chk_stmts behind body (depth + 1) l hb.1
    have hEl := fun l => chk_stmts behind els (depth + 1) l hb.2
    unfold S.numS at hnum
    unfold S.exprsS at hex
    rw [S.bStmt]
    have hone : exprs.length ≤ S.needEs exprs 0 := by
      by_cases he : exprs = []
      · subst he; simp
      · have := need_len exprs 0 he; omega
    by_cases c4 : op = 4
    · rw [if_pos c4]
      have hT : S.allChk (S.bTest (L + 15) L exprs) := by
        cases exprs with
        | nil => exact allChk_nil
        | cons e r => rw [S.bExprs] at hE; exact fun x hx => hE x (List.mem_append_left _ hx)
      exact allChk_append (allChk_append (allChk_append (allChk_append (allChk_one (chk_bL _)) hT) (allChk_one (chk_bU _ (by decide)))) (hB _)) (allChk_cons (chk_bJ _ (by decide)) (allChk_one (chk_bL _)))
    rw [if_neg c4]
    by_cases c3 : op = 3
    · rw [if_pos c3]
      exact allChk_append (allChk_append (allChk_append (allChk_append (allChk_append hE (allChk_one (chk_bU _ (by decide)))) (hB _)) (allChk_cons (chk_bJ _ (by decide)) (allChk_one (chk_bL _)))) (hEl _)) (allChk_one (chk_bL _))
    rw [if_neg c3]
    refine allChk_append hE ?_
    by_cases c1 : op = 1
    · rw [if_pos c1] at hnum ⊢
      have hn' := of_decide_eq_true hnum
      exact allChk_one (chk_store hL (by decide) (by omega))
    rw [if_neg c1] at hnum ⊢
    by_cases c2 : op = 2
    · rw [if_pos c2] at hnum ⊢
      have hn' : -32768 ≤ n ∧ n < 32768 := of_decide_eq_true hnum
      exact allChk_one (chk_bI (good_sto (by decide) (by decide) (by omega)))
    rw [if_neg c2] at hnum hex ⊢
    by_cases c5 : op = 5
    · rw [if_pos c5] at hex ⊢
      exact allChk_append (chk_regs hL regs 0 hris (by omega)) (chk_back hL behind)
    rw [if_neg c5]
    by_cases c7 : op = 7
    · rw [if_pos c7]; exact allChk_one (chk_bI (good_outB (.inl rfl) (by decide)))
    rw [if_neg c7]
    by_cases c8 : op = 8
    · rw [if_pos c8]; exact allChk_one (chk_bI (good_outB (.inr rfl) (by decide)))
    rw [if_neg c8]
    by_cases c9 : op = 9
    · rw [if_pos c9] at hnum ⊢
      have := vis_hi hnum
      exact allChk_one (chk_move hL (by omega) (by decide))
    rw [if_neg c9]
    by_cases c10 : op = 10
    · rw [if_pos c10]; exact allChk_cons (chk_pop hL) (allChk_one (chk_bJ _ (by decide)))
    rw [if_neg c10]
    by_cases c11 : op = 11
    · rw [if_pos c11]; exact allChk_cons (chk_pop hL) (allChk_one (chk_bI (good_imm (.inr (.inr rfl)) (by decide) (by decide) (by decide))))
    rw [if_neg c11]; exact allChk_nil
theorem chk_stmts (behind : Bool) : ∀ (r : List S.BS) (depth : Nat) (l : Int), S.chkSs L r depth = 0 → S.allChk (S.bStmts (L + 15) L behind r l).1
  | [], depth, l, _ => allChk_nil
  | s :: r, depth, l, hc => by
    rw [S.chkSs] at hc
    rw [S.bStmts]
    by_cases h : S.chkS L s depth ≠ 0
    · rw [if_pos h] at hc; exact absurd hc h
    · rw [if_neg h] at hc
      exact allChk_append (chk_stmt behind s depth l (by simpa using h)) (chk_stmts behind r depth _ hc)
end
end

theorem chk_params : ∀ k : Nat, k ≤ 4 → S.allChk (S.bParams k)
  | 0, _ => allChk_nil
  | k + 1, h => allChk_append (chk_params k (by omega)) (allChk_one (chk_bI (good_sto (by decide) (by omega) (by omega))))
theorem chk_items (r : S.BR) (hc : S.chkB r = 0) : S.allChk (S.bItems r) := by
  obtain ⟨hn, p0, p4, pL, L200, hbody⟩ := chkB_parts hc
  have hfr : S.frameB r = r.locals + 15 := by unfold S.frameB; rw [if_neg (by simp [hc])]
  have hL : 0 ≤ r.locals ∧ r.locals ≤ 200 := by omega
  unfold S.bItems S.bHead
  rw [hfr]
  refine allChk_append (allChk_append (allChk_append (allChk_append (allChk_cons (chk_bL _) (allChk_one (chk_bI (good_sto (by decide) (by decide) (by decide))))) (chk_params _ (by omega))) (allChk_one (chk_bI (good_imm (.inl rfl) (by decide) (by decide) (by omega))))) (chk_stmts hL _ _ 0 _ hbody)) (chk_back hL _)

theorem allChk_own {n : ByteArray} {xs : List S.Item} (h : S.allChk xs) : S.allChk (xs.map (S.ownItem n)) := fun x hx => by
  obtain ⟨y, hy, rfl⟩ := List.mem_map.1 hx
  exact h y hy
theorem tells_own (n : ByteArray) (xs : List S.Item) : S.tells (xs.map (S.ownItem n)) = (S.tells xs).map (S.owned n) := by
  induction xs with
  | nil => rfl
  | cons x r ih =>
    rw [List.map_cons, S.tells, S.tells, ih]
    show (if x.kind = 2 then _ else _) = _
    split <;> rfl
theorem names_own (n : ByteArray) (xs : List S.Item) : S.names (xs.map (S.ownItem n)) = (S.names xs).map (S.owned n) := by
  induction xs with
  | nil => rfl
  | cons x r ih =>
    rw [List.map_cons, S.names, S.names, ih]
    show (if S.named x = true then _ else _) = _
    split <;> rfl
theorem bulk_own (n : ByteArray) (xs : List S.Item) : S.bulk (xs.map (S.ownItem n)) = S.bulk xs := by
  induction xs with
  | nil => rfl
  | cons x r ih => rw [List.map_cons, S.bulk, S.bulk, ih]; rfl

end Go.Proofs.YtlldagdhlfpihaaGreatDoor
end
