/- Plain: what EmitLoads' function becomes, and what a machine makes of its words. No program in sight. -/
import Derived.Test.YtidhglleeccpoaaDoorMachW
import Derived.Test.YtidhglleeccpoaaDoorAsmI
import Derived.Test.YtidhglleeccpoaaDoorEMak
set_option linter.unusedVariables false
set_option linter.unusedSimpArgs false
set_option linter.unusedSectionVars false
namespace Go.Proofs.YtidhglleeccpoaaDoor
open Go.RowKit

/-- The instructions that bring a word to a register. -/
def ldX (d w : Int) : List S.Inst :=
  if w < 32768 then [⟨15, d, 0, 0, w⟩] else if 4294934528 ≤ w then [⟨15, d, 0, 0, w - 4294967296⟩]
  else if w % 65536 = 0 then [⟨23, d, 0, 0, w / 65536⟩] else [⟨23, d, 0, 0, w / 65536⟩, ⟨17, d, d, 0, w % 65536⟩]
def inI (x : S.Inst) : S.Item := ⟨1, x, S.noLab, 0⟩
def nopI : S.Inst := ⟨15, 0, 0, 0, 0⟩
theorem eload_ldX (d w : Int) : S.eload d w = (ldX d w).map inI := by
  unfold S.eload ldX
  split
  · rfl
  · split
    · rfl
    · split <;> rfl
/-- The function of the law. -/
def ldF (d w : Int) : S.VFunc := ⟨0, 32, 0, 0, 0, false, [⟨69, d, 0, 0, w, 0, [], []⟩, ⟨71, 1 + d % 31, 0, 0, 0, 0, [], []⟩, ⟨72, 0, 0, 0, 106, 0, [], []⟩]⟩
def ldT (d w : Int) : List S.Inst := ldX d w ++ ldX (1 + d % 31) w ++ [nopI]
def ldL (d w : Int) : List S.Inst := ⟨15, 3, 0, 0, 0⟩ :: nopI :: ldT d w
def ldI (d w : Int) : List S.Item := S.iLabel (S.outer 0) :: inI ⟨15, 3, 0, 0, 0⟩ :: inI nopI :: S.iLabel (S.inner 0) :: (ldT d w).map inI
/-- What the law makes of an item: branches and jumps do nothing. -/
def nopOf (x : S.Item) : S.Item := if x.kind = 3 ∨ x.kind = 4 then inI nopI else x

theorem ld_ok {d w : Int} (d0 : 1 ≤ d) (d1 : d ≤ 31) : S.emitE (ldF d w) [w] = 0 := by
  have r1 : S.regOf 32 d = true := by unfold S.regOf; simp; omega
  have r2 : S.regOf 32 (1 + d % 31) = true := by unfold S.regOf; simp; omega
  have r0 : S.regOf 32 0 = true := by decide
  have e1 : d ≤ 31 := d1
  have e2 : 1 + d % 31 ≤ 31 := by omega
  unfold S.emitE S.echk ldF
  simp [S.einst, S.moves, S.rising, S.vchk, S.moved, S.vinst, S.vform, S.vplain, S.vgoes, S.vlast, S.dataOk, r1, r2, r0, e1, e2]

theorem map_inI (xs : List S.Inst) : (xs.map inI).map nopOf = xs.map inI := by
  rw [List.map_map]
  rfl
theorem ld_items {d w : Int} (d0 : 1 ≤ d) (d1 : d ≤ 31) (w0 : 0 ≤ w) (w1 : w ≤ 4294967295) : (S.emitItems (ldF d w) [w]).map nopOf = ldI d w := by
  unfold S.emitItems
  rw [if_pos (ld_ok d0 d1)]
  have e1 : S.eitems [w] ⟨69, d, 0, 0, w, 0, [], []⟩ = (ldX d w).map inI := by
    have : S.u32 w = w := by unfold S.u32; omega
    show S.eload d (S.u32 w) = _
    rw [this, eload_ldX]
  have e2 : S.eitems [w] ⟨71, 1 + d % 31, 0, 0, 0, 0, [], []⟩ = (ldX (1 + d % 31) w).map inI := by
    show S.eload (1 + d % 31) ([w].getD (0 : Int).toNat 0) = _
    rw [eload_ldX]
    rfl
  have e3 : S.eitems [w] ⟨72, 0, 0, 0, 106, 0, [], []⟩ = [S.iJump 0 (S.rt 106)] := rfl
  have e4 : S.eentry (ldF d w) = [S.iLabel (S.outer 0), inI ⟨15, 3, 0, 0, 0⟩, S.iBranch 27 2 3 (S.rt 103), S.iLabel (S.inner 0)] := rfl
  rw [e4]
  show (_ ++ [(⟨69, d, 0, 0, w, 0, [], []⟩ : S.VInst), ⟨71, 1 + d % 31, 0, 0, 0, 0, [], []⟩, ⟨72, 0, 0, 0, 106, 0, [], []⟩].flatMap (S.eitems [w])).map nopOf = _
  simp only [List.flatMap_cons, List.flatMap_nil, e1, e2, e3, List.map_append, map_inI, List.append_nil]
  unfold ldI ldT
  simp only [List.map_append, List.map_cons, List.map_nil, List.append_assoc]
  rfl

theorem ldX_len (d w : Int) : 1 ≤ (ldX d w).length ∧ (ldX d w).length ≤ 2 := by
  unfold ldX
  split
  · simp
  · split
    · simp
    · split <;> simp
theorem good_lui {d n : Int} (d0 : 0 ≤ d) (d1 : d ≤ 31) (n0 : 0 ≤ n) (n1 : n ≤ 65535) : S.good ⟨23, d, 0, 0, n⟩ = true := by
  have hf : S.form 23 = 3 := by decide
  have hl : S.least 23 = 0 ∧ S.most 23 = 65535 := by decide
  simp [S.good, hf, hl.1, hl.2, S.reg, S.hasD, S.hasA, S.hasB]
  omega
theorem good_addi {d n : Int} (d0 : 0 ≤ d) (d1 : d ≤ 31) (n0 : -32768 ≤ n) (n1 : n ≤ 32767) : S.good ⟨15, d, 0, 0, n⟩ = true := by
  have hf : S.form 15 = 2 := by decide
  have hl : S.least 15 = -32768 ∧ S.most 15 = 32767 := by decide
  simp [S.good, hf, hl.1, hl.2, S.reg, S.hasD, S.hasA, S.hasB]
  omega
theorem good_ori {d n : Int} (d0 : 0 ≤ d) (d1 : d ≤ 31) (n0 : 0 ≤ n) (n1 : n ≤ 65535) : S.good ⟨17, d, d, 0, n⟩ = true := by
  have hf : S.form 17 = 2 := by decide
  have hl : S.least 17 = 0 ∧ S.most 17 = 65535 := by decide
  simp [S.good, hf, hl.1, hl.2, S.reg, S.hasD, S.hasA, S.hasB]
  omega
def LdIn (x : S.Inst) : Prop := S.good x = true ∧ 15 ≤ x.op ∧ x.op ≤ 23
theorem ldX_in {d w : Int} (d0 : 0 ≤ d) (d1 : d ≤ 31) (w0 : 0 ≤ w) (w1 : w ≤ 4294967295) : ∀ x ∈ ldX d w, LdIn x := by
  intro x hx
  unfold ldX at hx
  split at hx
  · simp only [List.mem_singleton] at hx; subst hx; exact ⟨good_addi d0 d1 (by omega) (by omega), (by decide : (15 : Int) ≤ 15), (by decide : (15 : Int) ≤ 23)⟩
  · split at hx
    · simp only [List.mem_singleton] at hx; subst hx; exact ⟨good_addi d0 d1 (by omega) (by omega), (by decide : (15 : Int) ≤ 15), (by decide : (15 : Int) ≤ 23)⟩
    · split at hx
      · simp only [List.mem_singleton] at hx; subst hx; exact ⟨good_lui d0 d1 (by omega) (by omega), (by decide : (15 : Int) ≤ 23), (by decide : (23 : Int) ≤ 23)⟩
      · simp only [List.mem_cons, List.not_mem_nil, or_false] at hx
        rcases hx with rfl | rfl
        · exact ⟨good_lui d0 d1 (by omega) (by omega), (by decide : (15 : Int) ≤ 23), (by decide : (23 : Int) ≤ 23)⟩
        · exact ⟨good_ori d0 d1 (by omega) (by omega), (by decide : (15 : Int) ≤ 17), (by decide : (17 : Int) ≤ 23)⟩
theorem nop_in : LdIn nopI := ⟨by decide, by decide, by decide⟩
theorem ldT_in {d w : Int} (d0 : 1 ≤ d) (d1 : d ≤ 31) (w0 : 0 ≤ w) (w1 : w ≤ 4294967295) : ∀ x ∈ ldT d w, LdIn x := by
  intro x hx
  unfold ldT at hx
  simp only [List.mem_append, List.mem_singleton] at hx
  rcases hx with (hx | hx) | rfl
  · exact ldX_in (by omega) d1 w0 w1 x hx
  · exact ldX_in (by omega) (by omega) w0 w1 x hx
  · exact nop_in
theorem ldL_in {d w : Int} (d0 : 1 ≤ d) (d1 : d ≤ 31) (w0 : 0 ≤ w) (w1 : w ≤ 4294967295) : ∀ x ∈ ldL d w, LdIn x := by
  intro x hx
  unfold ldL at hx
  simp only [List.mem_cons] at hx
  rcases hx with rfl | rfl | hx
  · exact ⟨by decide, by decide, by decide⟩
  · exact nop_in
  · exact ldT_in d0 d1 w0 w1 x hx
theorem ldL_len (d w : Int) : 5 ≤ (ldL d w).length ∧ (ldL d w).length ≤ 7 := by
  have h1 := ldX_len d w
  have h2 := ldX_len (1 + d % 31) w
  simp only [ldL, ldT, List.length_cons, List.length_append, List.length_nil]
  omega

/-! Its words -/
theorem ld_addr {xs : List S.Item} {G : List Int} (hk : ∀ x ∈ xs, x.kind = 1 ∨ x.kind = 2) : ∀ i : Nat, S.addr xs G 0 i ≤ i
  | 0 => by simp [S.addr]
  | i + 1 => by
    have h := ld_addr (G := G) hk i
    have h2 : S.sizeAt xs G i ≤ 1 := by
      unfold S.sizeAt
      split
      · omega
      · rename_i x hx
        rcases hk x (List.mem_of_getElem? hx) with e | e <;> simp [S.size, e]
    simp only [S.addr]
    omega
def oneOf (x : S.Item) : List Int := if x.kind = 1 then [S.wordOf x.inst] else []
theorem ld_outTo {xs : List S.Item} {F : List Int} (hk : ∀ x ∈ xs, x.kind = 1 ∨ x.kind = 2) : ∀ i : Nat, S.outTo xs F 0 i = (xs.take i).flatMap oneOf
  | 0 => by simp [S.outTo]
  | i + 1 => by
    rw [S.outTo, ld_outTo hk i]
    cases hx : xs[i]? with
    | none =>
      have hn := List.getElem?_eq_none_iff.1 hx
      simp only [S.wordsAt, hx, List.append_nil]
      rw [List.take_of_length_le hn, List.take_of_length_le (by omega)]
    | some x =>
      obtain ⟨hi, e⟩ := List.getElem?_eq_some_iff.1 hx
      rw [List.take_succ_eq_append_getElem hi, List.flatMap_append, e]
      congr 1
      simp only [S.wordsAt, hx, List.flatMap_cons, List.flatMap_nil, List.append_nil]
      rcases hk x (List.mem_of_getElem? hx) with h | h <;> simp [S.wordsOf, oneOf, h]
theorem firstErr_zero : ∀ {xs : List S.Item}, (∀ x ∈ xs, S.chkItem x = 0) → S.firstErr xs = 0
  | [], _ => rfl
  | x :: r, h => by
    rw [S.firstErr, if_neg (by simp [h x (by simp)])]
    exact firstErr_zero fun y hy => h y (List.mem_cons_of_mem _ hy)
theorem ld_kinds (d w : Int) : ∀ x ∈ ldI d w, x.kind = 1 ∨ x.kind = 2 := by
  intro x hx
  unfold ldI at hx
  simp only [List.mem_cons, List.mem_map] at hx
  rcases hx with rfl | rfl | rfl | rfl | ⟨y, _, rfl⟩
  · exact .inr rfl
  · exact .inl rfl
  · exact .inl rfl
  · exact .inr rfl
  · exact .inl rfl
theorem ld_chk {d w : Int} (d0 : 1 ≤ d) (d1 : d ≤ 31) (w0 : 0 ≤ w) (w1 : w ≤ 4294967295) : ∀ x ∈ ldI d w, S.chkItem x = 0 := by
  have hi : ∀ y, LdIn y → S.chkItem (inI y) = 0 := fun y hy => by
    simp [S.chkItem, inI, S.chk, hy.1]
  intro x hx
  unfold ldI at hx
  simp only [List.mem_cons, List.mem_map] at hx
  rcases hx with rfl | rfl | rfl | rfl | ⟨y, hy, rfl⟩
  · simp [S.chkItem, S.iLabel]
  · exact hi _ ⟨by decide, by decide, by decide⟩
  · exact hi _ nop_in
  · simp [S.chkItem, S.iLabel]
  · exact hi _ (ldT_in d0 d1 w0 w1 y hy)
theorem two_labels : ¬ (S.outer 0 = S.inner 0) := by
  intro h
  have e1 : (S.outer 0).data.toList.head? = some 102 := by kernel_rfl
  have e2 : (S.inner 0).data.toList.head? = some 107 := by kernel_rfl
  rw [h, e2] at e1
  exact absurd e1 (by decide)
theorem ld_check {d w : Int} (d0 : 1 ≤ d) (d1 : d ≤ 31) (w0 : 0 ≤ w) (w1 : w ≤ 4294967295) : S.CheckRes (ldI d w) 0 0 := by
  refine .inr (.inr (.inr (.inr ⟨by decide, by decide, firstErr_zero (ld_chk d0 d1 w0 w1), ?_, ?_, rfl⟩)))
  · rintro ⟨i, x, hx, hk, hs⟩
    have st0 : S.stands (ldI d w) (S.outer 0) = 0 := by
      unfold S.stands
      show S.standsFrom (ldI d w) _ (((ldT d w).map inI).length + 1 + 1 + 1 + 1) 0 = 0
      rw [S.standsFrom]
      rfl
    have st3 : S.stands (ldI d w) (S.inner 0) = 3 := by
      have hne := two_labels
      unfold S.stands
      show S.standsFrom (ldI d w) _ (((ldT d w).map inI).length + 1 + 1 + 1 + 1) 0 = 3
      simp only [S.standsFrom, ldI, List.getElem?_cons_zero, List.getElem?_cons_succ, S.iLabel, inI, hne]
      simp
    unfold ldI at hx
    rcases i with _ | _ | _ | _ | i
    · simp only [List.getElem?_cons_zero, Option.some.injEq] at hx
      subst hx
      exact hs st0
    · simp only [List.getElem?_cons_zero, List.getElem?_cons_succ, Option.some.injEq] at hx
      subst hx
      cases hk
    · simp only [List.getElem?_cons_zero, List.getElem?_cons_succ, Option.some.injEq] at hx
      subst hx
      cases hk
    · simp only [List.getElem?_cons_zero, List.getElem?_cons_succ, Option.some.injEq] at hx
      subst hx
      exact hs st3
    · simp only [List.getElem?_cons_succ, List.getElem?_map, Option.map_eq_some_iff] at hx
      obtain ⟨y, _, rfl⟩ := hx
      cases hk
  · rintro ⟨i, x, hx, hn, _⟩
    rcases ld_kinds d w x (List.mem_of_getElem? hx) with h | h <;> simp [S.named, h] at hn
theorem ld_words {d w r : Int} {F : List Int} (d0 : 1 ≤ d) (d1 : d ≤ 31) (w0 : 0 ≤ w) (w1 : w ≤ 4294967295) (h : S.FormsRes (ldI d w) 0 r F) :
    r = 0 ∧ S.outTo (ldI d w) F 0 (ldI d w).length = (ldL d w).map S.enc := by
  have hc := ld_check d0 d1 w0 w1
  have hl := ldL_len d w
  have hll : (ldI d w).length = (ldL d w).length + 2 := by simp [ldI, ldL]
  have hr : r = 0 := by
    rcases h with ⟨h1, h2, _⟩ | ⟨_, _, _, G, _, h2⟩ | ⟨_, h, _⟩
    · exact absurd (checkRes_fun h2 hc) h1
    · have := ld_addr (G := G) (ld_kinds d w) (ldI d w).length
      unfold S.most26 at h2
      omega
    · exact h
  refine ⟨hr, ?_⟩
  rw [ld_outTo (ld_kinds d w), List.take_of_length_le (Nat.le_refl _)]
  have hm : ∀ xs : List S.Inst, (∀ x ∈ xs, LdIn x) → (xs.map inI).flatMap oneOf = xs.map S.enc := by
    intro xs hx
    induction xs with
    | nil => rfl
    | cons y t ih =>
      simp only [List.map_cons, List.flatMap_cons]
      rw [ih fun z hz => hx z (List.mem_cons_of_mem _ hz)]
      have : oneOf (inI y) = [S.enc y] := by simp [oneOf, inI, S.wordOf, (hx y (by simp)).1]
      rw [this]
      rfl
  have e := hm (ldL d w) (ldL_in d0 d1 w0 w1)
  rw [← e]
  rfl

/-! The machine -/
def lval (r : List Int) (x : S.Inst) : Int := if x.op = 23 then S.u32m (S.u32m x.imm * 65536) else S.alu (S.like x.op) (r.getD x.a.toNat 0) (S.u32m x.imm)
def lstep (r : List Int) (x : S.Inst) : List Int := if x.d = 0 then r else r.set x.d.toNat (lval r x)
theorem ld_steps {xs : List S.Inst} (hx : ∀ x ∈ xs, LdIn x) (hl : xs.length ≤ 1000) : ∀ k : Nat, k ≤ xs.length →
    (newM (xs.map S.enc) (xs.length + 1) []).steps_ k = ⟨(xs.take k).foldl lstep (List.replicate 32 0), xs.map S.enc ++ [0], k, [], [], 0, 0, 0, k⟩
  | 0, _ => by
    show newM (xs.map S.enc) (xs.length + 1) [] = _
    unfold newM
    simp
  | k + 1, hk => by
    have ih := ld_steps hx hl k (by omega)
    have hxk := hx xs[k] (List.getElem_mem _)
    obtain ⟨hd, hE⟩ := dec_enc hxk.1
    have hg : (xs.map S.enc ++ [0]).getD ((k : Nat) : Int).toNat 0 = S.enc xs[k] := by
      have : ((k : Nat) : Int).toNat = k := by omega
      rw [this]
      have hk' : k < xs.length := hk
      simp [List.getElem?_append_left, hk']
    rw [S.Mach.steps_, ih]
    unfold S.Mach.step
    rw [if_neg (by simp)]
    simp only
    rw [if_neg (by simp; omega), hg, hE, hd, if_neg (by simp)]
    have ht : (xs.take (k + 1)).foldl lstep (List.replicate 32 0) = lstep ((xs.take k).foldl lstep (List.replicate 32 0)) xs[k] := by
      rw [List.take_succ_eq_append_getElem hk, List.foldl_append]
      rfl
    rw [ht]
    generalize (xs.take k).foldl lstep (List.replicate 32 0) = R
    generalize hX : xs[k] = X at *
    have hp : S.u32m ((k : Int) + 1) = ((k + 1 : Nat) : Int) := by unfold S.u32m; omega
    by_cases h23 : X.op = 23
    · have ha : S.Mach.act ⟨R, xs.map S.enc ++ [0], k, [], [], 0, 0, 0, k⟩ X = (S.Mach.put ⟨R, xs.map S.enc ++ [0], k, [], [], 0, 0, 0, k⟩ X.d (S.u32m (S.u32m X.imm * 65536)), S.u32m ((k : Int) + 1), 0) := by
        unfold S.Mach.act
        simp [h23]
      rw [ha]
      simp only [hp]
      rw [if_neg (by simp)]
      unfold S.Mach.put lstep lval
      by_cases hd0 : X.d = 0 <;> simp [hd0, h23]
    · have ho : ¬ X.op ≤ 14 ∧ X.op ≤ 22 := by have := hxk.2; omega
      have ha : S.Mach.act ⟨R, xs.map S.enc ++ [0], k, [], [], 0, 0, 0, k⟩ X = (S.Mach.put ⟨R, xs.map S.enc ++ [0], k, [], [], 0, 0, 0, k⟩ X.d (S.alu (S.like X.op) (R.getD X.a.toNat 0) (S.u32m X.imm)), S.u32m ((k : Int) + 1), 0) := by
        unfold S.Mach.act
        simp [ho.1, ho.2, S.Mach.rd]
      rw [ha]
      simp only [hp]
      rw [if_neg (by simp)]
      unfold S.Mach.put lstep lval
      by_cases hd0 : X.d = 0 <;> simp [hd0, h23]

theorem or_add {h l : Nat} (hl : l < 65536) : (h * 65536) ||| l = h * 65536 + l := by
  have := Nat.two_pow_add_eq_or_of_lt (i := 16) (b := l) (by omega) h
  have e : 2 ^ 16 * h = h * 65536 := by omega
  rw [e] at this
  exact this.symm
theorem lor_val {w : Int} (w0 : 0 ≤ w) (w1 : w ≤ 4294967295) : bits .or .u32 (S.u32m (S.u32m (w / 65536) * 65536)) (S.u32m (w % 65536)) = w := by
  have e1 : S.u32m (S.u32m (w / 65536) * 65536) = w / 65536 * 65536 := by unfold S.u32m; omega
  have e2 : S.u32m (w % 65536) = w % 65536 := by unfold S.u32m; omega
  rw [e1, e2, u32_or (by omega) (by omega) (by omega) (by omega)]
  have e3 : (w / 65536 * 65536).toNat = (w / 65536).toNat * 65536 := by omega
  rw [e3, or_add (by omega)]
  omega
theorem getD_setI (R : List Int) (i j : Nat) (v : Int) : (R.set i v).getD j 0 = if i = j ∧ j < R.length then v else R.getD j 0 := by
  by_cases h : i = j
  · subst h
    by_cases hl : i < R.length
    · simp [hl]
    · simp [hl]
  · simp [h]

theorem ldX_run {d w : Int} (d0 : 1 ≤ d) (d1 : d ≤ 31) (w0 : 0 ≤ w) (w1 : w ≤ 4294967295) {R : List Int} (hR : R.length = 32) (hz : R.getD 0 0 = 0) :
    ((ldX d w).foldl lstep R).length = 32 ∧ ((ldX d w).foldl lstep R).getD 0 0 = 0 ∧ ((ldX d w).foldl lstep R).getD d.toNat 0 = w ∧ ∀ j, j ≠ d.toNat → ((ldX d w).foldl lstep R).getD j 0 = R.getD j 0 := by
  have hd : d ≠ 0 := by omega
  have hdn : d.toNat ≠ 0 := by omega
  have hdl : d.toNat < 32 := by omega
  have one : ∀ (op v imm : Int), lval R ⟨op, d, 0, 0, imm⟩ = v → v = w → (lstep R ⟨op, d, 0, 0, imm⟩).length = 32 ∧ (lstep R ⟨op, d, 0, 0, imm⟩).getD 0 0 = 0 ∧ (lstep R ⟨op, d, 0, 0, imm⟩).getD d.toNat 0 = w ∧ ∀ j, j ≠ d.toNat → (lstep R ⟨op, d, 0, 0, imm⟩).getD j 0 = R.getD j 0 := by
    intro op v imm h1 h2
    have e : lstep R ⟨op, d, 0, 0, imm⟩ = R.set d.toNat w := by
      unfold lstep
      rw [h1, h2]
      simp [hd]
    rw [e]
    refine ⟨by simp [hR], ?_, ?_, fun j hj => ?_⟩
    · rw [getD_setI, if_neg (fun q => hdn q.1)]; exact hz
    · rw [getD_setI, if_pos ⟨rfl, by omega⟩]
    · rw [getD_setI, if_neg (fun q => hj q.1.symm)]
  have hz0 : R.getD (0 : Int).toNat 0 = 0 := hz
  unfold ldX
  split
  · refine one 15 w w ?_ rfl
    unfold lval S.like S.alu
    simp only [hz0]
    simp [S.u32m]
    omega
  · split
    · refine one 15 w _ ?_ rfl
      unfold lval S.like S.alu
      simp only [hz0]
      simp [S.u32m]
      omega
    · split
      · refine one 23 w _ ?_ rfl
        unfold lval
        simp [S.u32m]
        omega
      · obtain ⟨H, hH⟩ : ∃ H, H = S.u32m (S.u32m (w / 65536) * 65536) := ⟨_, rfl⟩
        have hor := lor_val w0 w1
        rw [← hH] at hor
        have e1 : lstep R ⟨23, d, 0, 0, w / 65536⟩ = R.set d.toNat H := by
          unfold lstep lval
          simp [hd, hH]
        have e2 : lstep (R.set d.toNat H) ⟨17, d, d, 0, w % 65536⟩ = (R.set d.toNat H).set d.toNat w := by
          have hv : lval (R.set d.toNat H) ⟨17, d, d, 0, w % 65536⟩ = w := by
            have hg : (R.set d.toNat H).getD d.toNat 0 = H := by rw [getD_setI, if_pos ⟨rfl, by omega⟩]
            have hv0 : lval (R.set d.toNat H) ⟨17, d, d, 0, w % 65536⟩ = S.alu (S.like 17) ((R.set d.toNat H).getD d.toNat 0) (S.u32m (w % 65536)) := rfl
            rw [hv0, hg]
            exact hor
          unfold lstep
          rw [hv]
          simp [hd]
        show (lstep (lstep R _) _).length = 32 ∧ (lstep (lstep R _) _).getD 0 0 = 0 ∧ (lstep (lstep R _) _).getD d.toNat 0 = w ∧ ∀ j, j ≠ d.toNat → (lstep (lstep R _) _).getD j 0 = R.getD j 0
        rw [e1, e2]
        refine ⟨by simp [hR], ?_, ?_, fun j hj => ?_⟩
        · rw [getD_setI, if_neg (fun q => hdn q.1), getD_setI, if_neg (fun q => hdn q.1)]; exact hz
        · rw [getD_setI, if_pos ⟨rfl, by simp; omega⟩]
        · rw [getD_setI, if_neg (fun q => hj q.1.symm), getD_setI, if_neg (fun q => hj q.1.symm)]

theorem ld_reg {d w : Int} (d0 : 1 ≤ d) (d1 : d ≤ 31) (w0 : 0 ≤ w) (w1 : w ≤ 4294967295) :
    ((ldL d w).foldl lstep (List.replicate 32 0)).getD d.toNat 0 = w ∧ ((ldL d w).foldl lstep (List.replicate 32 0)).getD (1 + d % 31).toNat 0 = w := by
  have hn : ∀ R, lstep R nopI = R := fun R => by simp [lstep, nopI]
  unfold ldL ldT
  simp only [List.foldl_cons, List.foldl_append, List.foldl_nil, hn]
  obtain ⟨R, hR⟩ : ∃ R, R = lstep (List.replicate 32 0) ⟨15, 3, 0, 0, 0⟩ := ⟨_, rfl⟩
  rw [← hR]
  have l1 : R.length = 32 := by rw [hR]; decide
  have z1 : R.getD 0 0 = 0 := by rw [hR]; decide
  obtain ⟨a1, a2, a3, a4⟩ := ldX_run d0 d1 w0 w1 l1 z1
  obtain ⟨b1, b2, b3, b4⟩ := ldX_run (d := 1 + d % 31) (by omega) (by omega) w0 w1 a1 a2
  refine ⟨?_, b3⟩
  rw [b4 _ (by omega)]
  exact a3
/-- What the machine has behind all its words. -/
theorem ld_end {d w : Int} (d0 : 1 ≤ d) (d1 : d ≤ 31) (w0 : 0 ≤ w) (w1 : w ≤ 4294967295) :
    ((newM ((ldL d w).map S.enc) ((ldL d w).length + 1) []).steps_ (ldL d w).length).trap = 0 ∧
    ((newM ((ldL d w).map S.enc) ((ldL d w).length + 1) []).steps_ (ldL d w).length).regV d = w ∧
    ((newM ((ldL d w).map S.enc) ((ldL d w).length + 1) []).steps_ (ldL d w).length).regV (1 + d % 31) = w := by
  have hl := ldL_len d w
  have hr := ld_reg d0 d1 w0 w1
  rw [ld_steps (ldL_in d0 d1 w0 w1) (by omega) _ (Nat.le_refl _), List.take_of_length_le (Nat.le_refl _)]
  unfold S.Mach.regV
  refine ⟨rfl, ?_, ?_⟩
  · rw [if_pos (by omega)]; exact hr.1
  · rw [if_pos (by omega)]; exact hr.2

end Go.Proofs.YtidhglleeccpoaaDoor
