/- The interpreter: regions in whatever order, code, functions. -/
import Derived.Test.YtlldagdhlfpihaaGreatDoorZQg
import Derived.Scope
set_option linter.unusedVariables false
set_option linter.unusedSimpArgs false
set_option linter.unusedSectionVars false
namespace Go.Proofs.YtlldagdhlfpihaaGreatDoor
open Go.RowKit

namespace S
def runOps (P : Program) (N : Nat) (call : FuncId → List AV → Option (AV × Tail)) (ops : Array Oper) (ep : Nat) : List Oper → Nat → St → Option (List (Eff × List Nat) × St)
  | [], _, s => some ([], s)
  | o :: r, i, s => match (effOp P N call ops (1000 * ep + i) o).run s with
    | none => none
    | some (e, l) => match runOps P N call ops ep r (i + 1) (e.apply s) with
      | none => none
      | some (es, s') => some ((e, l) :: es, s')
def depsOk : List Oper → Nat → Bool
  | [], _ => true
  | o :: r, i => o.after.toList.all (fun e => !Region.binds .any e || Nat.blt e.on i) && depsOk r (i + 1)
def regionA (P : Program) (N : Nat) (call : FuncId → List AV → Option (AV × Tail)) (ep : Nat) (ops : Array Oper) (draw : Bool) (s : St) : Option St := match runOps P N call ops ep ops.toList 0 s with
  | none => none
  | some (es, s') => if draw = true then (if P.follows .mixedOrders = true ∧ depsOk ops.toList 0 = true ∧ apartB es (befs ops.toList []) 0 = true then some s' else none) else some s'
end S

section
variable {P : Program} {B N : Nat} {w0 : World} {H0 : Rowed} {W : World → Prop} {call : FuncId → List S.AV → Option (S.AV × S.Tail)} {ep : Nat}

theorem runOps_spec {oa : Array Oper} : ∀ {ops : List Oper} {i : Nat} {s s' : S.St} {es : List (S.Eff × List Nat)}, S.runOps P N call oa ep ops i s = some (es, s') →
    es.length = ops.length ∧ s' = S.stL (fun _ => true) es i s ∧ ∀ k o, ops[k]? = some o → ∃ e l, es[k]? = some (e, l) ∧ (S.effOp P N call oa (1000 * ep + (i + k)) o).run (S.stL (fun j => decide (j < i + k)) es i s) = some (e, l)
  | [], i, s, s', es, h => by
    simp only [S.runOps, Option.some.injEq, Prod.mk.injEq] at h
    obtain ⟨rfl, rfl⟩ := h
    exact ⟨rfl, rfl, fun k o hk => by simp at hk⟩
  | o :: r, i, s, s', es, h => by
    unfold S.runOps at h
    split at h
    · cases h
    · rename_i e l he
      split at h
      · cases h
      · rename_i es' s2 hr
        simp only [Option.some.injEq, Prod.mk.injEq] at h
        obtain ⟨rfl, rfl⟩ := h
        obtain ⟨h1, h2, h3⟩ := runOps_spec hr
        refine ⟨by rw [List.length_cons, List.length_cons, h1], by rw [S.stL, if_pos rfl]; exact h2, fun k o' hk => ?_⟩
        cases k with
        | zero =>
          simp at hk
          subst hk
          refine ⟨e, l, rfl, ?_⟩
          have e0 : S.stL (fun j => decide (j < i + 0)) ((e, l) :: es') i s = s := by
            have key : ∀ (es : List (S.Eff × List Nat)) (k : Nat) (s : S.St), i ≤ k → S.stL (fun j => decide (j < i + 0)) es k s = s := by
              intro es
              induction es with
              | nil => intro k s _; rfl
              | cons p es ih =>
                obtain ⟨e1, l1⟩ := p
                intro k s hk
                rw [S.stL, if_neg (by simp; omega), ih (k + 1) s (by omega)]
            exact key _ i s (Nat.le_refl _)
          rw [e0]
          exact he
        | succ k =>
          obtain ⟨e', l', h4, h5⟩ := h3 k o' (by simpa using hk)
          refine ⟨e', l', by simpa using h4, ?_⟩
          rw [S.stL, if_pos (by simp), show i + (k + 1) = i + 1 + k by omega]
          exact h5

theorem GamX.drew {s : S.St} {a : Act} {w : World} (h : GamX B N w0 H0 s a w) : GamX B N w0 H0 s a w.drew := by
  obtain ⟨H, φ, h⟩ := h
  refine ⟨H, φ, ⟨⟨h.bel.os, h.bel.tape, h.bel.output, h.bel.size, h.bel.block⟩, h.base, h.old, h.bnd, h.size, h.defs, fun t x hx => ?_, fun i e cs hi => ?_, h.inj, fun t y hy => ?_, h.tinj⟩⟩
  · have hst : Stay H w H w.drew := fun b k e => ⟨k, e, Nat.le_refl _, fun _ _ => rfl⟩
    rcases h.slot t x hx with hb | hr
    · exact .inl hb
    · exact .inr (RepV.stay hst _ _ hr)
  · have hst : Stay H w H w.drew := fun b k e => ⟨k, e, Nat.le_refl _, fun _ _ => rfl⟩
    obtain ⟨h1, h2, vs, h3, h4⟩ := h.ent i e cs hi
    exact ⟨h1, h2, vs, h3, RepL.stay hst _ _ h4⟩
  · obtain ⟨x, hx, hok⟩ := h.tail t y hy
    exact ⟨x, hx, hok.keep fun _ _ => ⟨rfl, rfl⟩⟩

variable (hW : ∀ w, Below B w0 w → W w) (hcall : ∀ f xs r y, call f xs = some (r, y) → AFn P W f xs r y)
include hW hcall

theorem gamX_W {s : S.St} {a : Act} {w : World} (h : GamX B N w0 H0 s a w) : W w := by
  obtain ⟨H, φ, h⟩ := h
  exact hW w h.bel

/-- A region in its own order. -/
theorem region_plain {ops : Array Oper} {Q : Exit → Act → World → Prop} : ∀ {l : List Oper} {i : Nat} {s s' : S.St} {es : List (S.Eff × List Nat)}, S.runOps P N call ops ep l i s = some (es, s') → (∀ a w, GamX B N w0 H0 s' a w → Q .normal a w) → ∀ a w, GamX B N w0 H0 s a w → wpList P ops Q l a w
  | [], i, s, s', es, h, hQ, a, w, hG => by
    simp only [S.runOps, Option.some.injEq, Prod.mk.injEq] at h
    obtain ⟨_, rfl⟩ := h
    exact hQ a w hG
  | o :: r, i, s, s', es, h, hQ, a, w, hG => by
    unfold S.runOps at h
    split at h
    · cases h
    · rename_i e l he
      split at h
      · cases h
      · rename_i es' s2 hr
        simp only [Option.some.injEq, Prod.mk.injEq] at h
        obtain ⟨_, rfl⟩ := h
        have hd := op_sound hG (gamX_W hW hcall hG) hcall he (wpList P ops Q r) Q fun a' w' hG' => region_plain hr hQ a' w' hG'
        rw [wpList]
        rcases hd with ⟨hw, hd⟩ | ⟨hw, hd⟩
        · rw [if_pos hw]
          exact .inl hd
        · rw [if_neg (by rw [hw]; simp)]
          exact hd

omit hW hcall in
theorem depsOk_at : ∀ {l : List Oper} {i : Nat}, S.depsOk l i = true → ∀ k o, l[k]? = some o → ∀ e ∈ o.after, Region.binds .any e = true → e.on < i + k
  | [], i, h, k, o, hk => by simp at hk
  | o' :: r, i, h, k, o, hk => by
    simp only [S.depsOk, Bool.and_eq_true] at h
    cases k with
    | zero =>
      simp at hk
      subst hk
      intro e he hb
      have := List.all_eq_true.1 h.1 e (Array.mem_toList_iff.2 he)
      simp only [hb, Bool.not_true, Bool.false_or] at this
      simpa using this
    | succ k =>
      intro e he hb
      have := depsOk_at h.2 k o (by simpa using hk) e he hb
      omega
omit hW hcall in
theorem all_listed {ops : Array Oper} (hd : S.depsOk ops.toList 0 = true) {listed : Array Bool} (hn : listed.size = ops.size) (hr : Region.ready .any ops listed = []) : ∀ i, i < ops.size → listed.getD i false = true := by
  intro i
  induction i using Nat.strongRecOn with
  | _ i ih =>
    intro hi
    cases hl : listed.getD i false with
    | true => rfl
    | false =>
      have ho : ops[i]? = some ops[i] := Array.getElem?_eq_getElem hi
      have hmem : i ∈ Region.ready .any ops listed := mem_ready.2 ⟨getD_in (by omega) hl, _, ho, fun e he hb => by
        have := depsOk_at hd i ops[i] (by rw [Array.getElem?_toList]; exact ho) e he hb
        exact ih e.on (by omega) (by omega)⟩
      rw [hr] at hmem
      cases hmem

/-- A region in whatever order. -/
theorem region_any {ops : Array Oper} {Q : Exit → Act → World → Prop} {s s' : S.St} {es : List (S.Eff × List Nat)} (h : S.runOps P N call ops ep ops.toList 0 s = some (es, s')) (hd : S.depsOk ops.toList 0 = true) (hA : S.apartB es (S.befs ops.toList []) 0 = true)
    (hQ : ∀ a w, GamX B N w0 H0 s' a w → Q .normal a w) : ∀ (fuel : Nat) (listed : Array Bool) (a : Act) (w : World), listed.size = ops.size → (∀ i j, listed.getD i false = true → Region.waitsFor .any ops i j = true → listed.getD j false = true) →
      GamX B N w0 H0 (S.stL (fun k => listed.getD k false) es 0 s) a w → listed.toList.countP (fun b => !b) = fuel → wpAny P .any ops Q fuel listed a w := by
  obtain ⟨h1, h2, h3⟩ := runOps_spec h
  have hlen : es.length = ops.size := by rw [h1]; simp
  have hbl : (S.befs ops.toList []).length = es.length := by rw [befs_length, hlen]; simp
  have hend : ∀ (listed : Array Bool) (a : Act) (w : World), (∀ i, i < ops.size → listed.getD i false = true) → GamX B N w0 H0 (S.stL (fun k => listed.getD k false) es 0 s) a w → Q .normal a w := fun listed a w hall hG => by
    refine hQ a w ?_
    have e : S.stL (fun k => listed.getD k false) es 0 s = s' := by
      rw [h2]
      refine st_ext fun r => stL_agree es 0 s s (S.same.refl _ _) fun k e l hk _ => ?_
      rw [Nat.zero_add]
      exact hall k (by rw [← hlen]; exact (List.getElem?_eq_some_iff.1 hk).1)
    rw [← e]
    exact hG
  have bits : ∀ {L : Nat → Bool}, (∀ i j, L i = true → Region.waitsFor .any ops i j = true → L j = true) → ∀ k b, (S.befs ops.toList [])[k]? = some b → (∀ m, Region.waitsFor .any ops k m = true → L m = true) → ∀ j, b.testBit j = true → L j = true := fun {L} hcl k b hb hk j hj => by
    have := befs_closed (ops := ops) (C := fun k j => (∀ m, Region.waitsFor .any ops k m = true → L m = true) → L j = true) [] ops.toList [] rfl rfl (fun i b hb => by simp at hb) (fun i j hij hall => hall j hij)
      (fun i j k hij hjk hall => hjk fun m hm => hcl j m (hall j hij) hm) k b hb j hj
    exact this hk
  intro fuel
  induction fuel with
  | zero =>
    intro listed a w hn hcl hG hc
    have hall : ∀ i, i < ops.size → listed.getD i false = true := fun i hi => by
      have hi' : i < listed.size := by omega
      cases hl : listed.getD i false with
      | true => rfl
      | false =>
        exfalso
        have : 0 < listed.toList.countP (fun b => !b) := List.countP_pos_iff.2 ⟨false, by
          have e : listed[i] = false := by simpa [hi'] using hl
          rw [← e]
          simp, rfl⟩
        omega
    refine ⟨?_, hend listed a w hall hG⟩
    cases hr : Region.ready .any ops listed with
    | nil => rfl
    | cons i r =>
      have hi : i ∈ Region.ready .any ops listed := by rw [hr]; exact List.mem_cons_self
      obtain ⟨hun, o, ho, _⟩ := mem_ready.1 hi
      have := hall i (Array.getElem?_eq_some_iff.1 ho).1
      rw [getD_both hun] at this
      cases this
  | succ fuel ih =>
    intro listed a w hn hcl hG hc
    refine ⟨fun hr => hend listed a w (all_listed hd hn hr) hG, fun i hi => ?_⟩
    obtain ⟨hun, o, ho, hdeps⟩ := mem_ready.1 hi
    have hun' := getD_both hun
    have his := (Array.getElem?_eq_some_iff.1 ho).1
    have hil : i < listed.size := by omega
    obtain ⟨e, l, hei, hrun⟩ := h3 i o (by simpa using ho)
    have hw : ∀ m, Region.waitsFor .any ops i m = true → listed.getD m false = true := fun m hm => by
      obtain ⟨oi, hoi, e', he', hb, hon⟩ := Region.waitsFor_spec hm
      rw [ho] at hoi
      cases hoi
      have := hdeps e' he' hb
      rw [hon] at this
      exact this
    obtain ⟨q1, q2⟩ := stL_step (L := fun k => listed.getD k false) hA hbl (fun k b hb hL j hj => bits hcl k b hb (fun m hm => hcl k m hL hm) j hj) hei hun' (fun b hb j hj => bits hcl i b hb hw j hj) s
    have hrun' := rd_congr _ hrun (s' := S.stL (fun k => listed.getD k false) es 0 s) (fun r hr => by rw [Nat.zero_add]; exact q1 r hr)
    have hdo := op_sound hG (gamX_W hW hcall hG) hcall hrun' (wpAny P .any ops Q fuel (listed.setIfInBounds i true)) Q fun a' w' hG' => ih _ a' w' (by rw [Array.size_setIfInBounds]; exact hn) (fun k j hk hkj => ?_) ?_ ?_
    · unfold wpOp
      simp only [ho]
      rcases hdo with ⟨hw', hdo⟩ | ⟨hw', hdo⟩
      · rw [if_pos hw']
        exact .inl hdo
      · rw [if_neg (by rw [hw']; simp)]
        exact hdo
    · by_cases c : k = i
      · subst c
        exact getD_set_true (hw j hkj)
      · rw [getD_set_ne false (Ne.symm c)] at hk
        exact getD_set_true (hcl k j hk hkj)
    · rw [← q2] at hG'
      have e9 : (fun k => (listed.setIfInBounds i true).getD k false) = fun k => if k = i then true else listed.getD k false := by
        funext k
        by_cases c : k = i
        · subst c
          simp [hil]
        · rw [getD_set_ne false (Ne.symm c), if_neg c]
      rw [e9]
      exact hG'
    · rw [Array.toList_setIfInBounds, List.countP_set (by simpa using hil)]
      have e : listed.toList[i]'(by simpa using hil) = false := by simpa [hil] using hun'
      have hp : 0 < listed.toList.countP (fun b => !b) := List.countP_pos_iff.2 ⟨false, by rw [← e]; exact List.getElem_mem _, rfl⟩
      simp only [e, Bool.not_false, if_true, Bool.not_true]
      first | omega | (simp only [Bool.false_eq_true, not_false_eq_true, if_true, if_false]; omega)

theorem region_sound {id : Nat} {ops : Array Oper} {draw : Bool} {Q : Exit → Act → World → Prop} {s s' : S.St} (h : S.regionA P N call ep ops draw s = some s') (hQ : ∀ a w, GamX B N w0 H0 s' a w → Q .normal a w) {a : Act} {w : World} (hG : GamX B N w0 H0 s a w) :
    (Code.region id ops draw).wp P Q a w := by
  unfold S.regionA at h
  split at h
  · cases h
  · rename_i es s2 hr
    cases draw with
    | false =>
      simp only [Bool.false_eq_true, if_false, Option.some.injEq] at h
      subst h
      exact wp_region_list (region_plain hW hcall hr hQ a w hG)
    | true =>
      simp only [if_true] at h
      split at h
      · rename_i hh
        obtain ⟨hm, hd, hA⟩ := hh
        simp only [Option.some.injEq] at h
        subst h
        refine wp_region_any hm (region_any hW hcall hr hd hA hQ _ _ _ _ (by simp) (fun i j hi => ?_) ?_ (by simp [List.countP_replicate]))
        · rw [getD_replicate_false] at hi; cases hi
        · have e : S.stL (fun k => (Array.replicate ops.size false).getD k false) es 0 s = s := by
            have key : ∀ (es : List (S.Eff × List Nat)) (k : Nat) (s : S.St), S.stL (fun k => (Array.replicate ops.size false).getD k false) es k s = s := by
              intro es
              induction es with
              | nil => intro k s; rfl
              | cons p es ih =>
                obtain ⟨e1, l1⟩ := p
                intro k s
                rw [S.stL, getD_replicate_false, if_neg (by simp), ih]
            exact key es 0 s
          rw [e]
          exact hG.drew
      · cases h

end

namespace S
inductive AEx where
  | normal
  | exit (id : Nat)
  | ret
def AEx.to_ : AEx → Exit
  | .normal => .normal
  | .exit id => .exit id
  | .ret => .ret
def runCode (P : Program) (N : Nat) (call : FuncId → List AV → Option (AV × Tail)) : Nat → Code → Nat → St → Option (AEx × Nat × St)
  | 0, _, _, _ => none
  | n + 1, c, ep, s => match c with
    | .skip => some (.normal, ep, s)
    | .label _ => some (.normal, ep, s)
    | .ret => some (.ret, ep, s)
    | .exit id => some (.exit id, ep, s)
    | .region _ ops draw => match regionA P N call ep ops draw s with
      | some s' => some (.normal, ep + 1, s')
      | none => none
    | .seq x y => match runCode P N call n x ep s with
      | some (.normal, ep', s') => runCode P N call n y ep' s'
      | some (.exit id, ep', s') => some (.exit id, ep', s')
      | some (.ret, ep', s') => some (.ret, ep', s')
      | none => none
    | .cond c x y => match (evalA c).run s with
      | some (.bool true, _) => runCode P N call n x ep s
      | some (.bool false, _) => runCode P N call n y ep s
      | _ => none
    | .block id b => match runCode P N call n b ep s with
      | some (.normal, ep', s') => some (.normal, ep', s')
      | some (.exit id', ep', s') => if id' = id then some (.normal, ep', s') else some (.exit id', ep', s')
      | some (.ret, ep', s') => some (.ret, ep', s')
      | none => none
    | .scope b => runCode P N call n b ep s
    | .loop b => match runCode P N call n b ep s with
      | some (.normal, ep', s') => runCode P N call n (.loop b) ep' s'
      | some (.exit id, ep', s') => some (.exit id, ep', s')
      | some (.ret, ep', s') => some (.ret, ep', s')
      | none => none
    | _ => none
end S

section
variable {P : Program} {B N : Nat} {w0 : World} {H0 : Rowed} {W : World → Prop} {call : FuncId → List S.AV → Option (S.AV × S.Tail)} (hW : ∀ w, Below B w0 w → W w) (hcall : ∀ f xs r y, call f xs = some (r, y) → AFn P W f xs r y)
include hW hcall

theorem code_sound : ∀ (n : Nat) (c : Code) (ep ep' : Nat) (s s' : S.St) (ex : S.AEx), S.runCode P N call n c ep s = some (ex, ep', s') → ∀ (Q : Exit → Act → World → Prop), (∀ a w, GamX B N w0 H0 s' a w → Q ex.to_ a w) → ∀ a w, GamX B N w0 H0 s a w → c.wp P Q a w := by
  intro n
  induction n using Nat.strongRecOn with
  | _ n ih =>
  intro c ep ep' s s' ex h Q hQ a w hG
  cases n with
  | zero => simp [S.runCode] at h
  | succ n =>
  cases c with
  | skip =>
    simp only [S.runCode, Option.some.injEq, Prod.mk.injEq] at h
    obtain ⟨rfl, _, rfl⟩ := h
    exact wp_skip (hQ a w hG)
  | label l =>
    simp only [S.runCode, Option.some.injEq, Prod.mk.injEq] at h
    obtain ⟨rfl, _, rfl⟩ := h
    exact wp_label (hQ a w hG)
  | ret =>
    simp only [S.runCode, Option.some.injEq, Prod.mk.injEq] at h
    obtain ⟨rfl, _, rfl⟩ := h
    exact wp_ret (hQ a w hG)
  | exit id =>
    simp only [S.runCode, Option.some.injEq, Prod.mk.injEq] at h
    obtain ⟨rfl, _, rfl⟩ := h
    exact wp_exit (hQ a w hG)
  | region id ops draw =>
    simp only [S.runCode] at h
    split at h
    · rename_i s2 hr
      simp only [Option.some.injEq, Prod.mk.injEq] at h
      obtain ⟨rfl, _, rfl⟩ := h
      exact region_sound hW hcall hr hQ hG
    · cases h
  | seq x y =>
    simp only [S.runCode] at h
    refine wp_seq ?_
    split at h
    · rename_i e1 s1 hx
      exact ih n (Nat.lt_succ_self n) x ep _ s _ _ hx _ (fun a w hG' => ih n (Nat.lt_succ_self n) y _ _ _ _ _ h Q hQ a w hG') a w hG
    · rename_i id e1 s1 hx
      simp only [Option.some.injEq, Prod.mk.injEq] at h
      obtain ⟨rfl, _, rfl⟩ := h
      refine ih n (Nat.lt_succ_self n) x ep _ s _ _ hx _ (fun a w hG' => ?_) a w hG
      exact hQ a w hG'
    · rename_i e1 s1 hx
      simp only [Option.some.injEq, Prod.mk.injEq] at h
      obtain ⟨rfl, _, rfl⟩ := h
      refine ih n (Nat.lt_succ_self n) x ep _ s _ _ hx _ (fun a w hG' => ?_) a w hG
      exact hQ a w hG'
    · cases h
  | cond c x y =>
    simp only [S.runCode] at h
    have hbool : ∀ b l, (S.evalA c).run s = some (.bool b, l) → a.eval c = .bool b := fun b l he => by
      obtain ⟨H, φ, hG⟩ := hG
      rcases evalA_rep hG he with ⟨_, _, hq, _⟩ | hv
      · cases hq
      · rw [RepV] at hv; exact hv
    split at h
    · rename_i l he
      exact wp_cond_true (hbool _ _ he) (ih n (Nat.lt_succ_self n) x ep _ s _ _ h Q hQ a w hG)
    · rename_i l he
      exact wp_cond_false (hbool _ _ he) (ih n (Nat.lt_succ_self n) y ep _ s _ _ h Q hQ a w hG)
    · cases h
  | block id b =>
    simp only [S.runCode] at h
    refine wp_block ?_
    split at h
    · rename_i e1 s1 hx
      simp only [Option.some.injEq, Prod.mk.injEq] at h
      obtain ⟨rfl, _, rfl⟩ := h
      refine ih n (Nat.lt_succ_self n) b ep _ s _ _ hx _ (fun a w hG' => ?_) a w hG
      exact hQ a w hG'
    · rename_i id' e1 s1 hx
      split at h
      · rename_i hid
        simp only [Option.some.injEq, Prod.mk.injEq] at h
        obtain ⟨rfl, _, rfl⟩ := h
        refine ih n (Nat.lt_succ_self n) b ep _ s _ _ hx _ (fun a w hG' => ?_) a w hG
        show Exit.inBlock id Q (.exit id') a w
        unfold Exit.inBlock
        simp only [if_pos hid]
        exact hQ a w hG'
      · rename_i hid
        simp only [Option.some.injEq, Prod.mk.injEq] at h
        obtain ⟨rfl, _, rfl⟩ := h
        refine ih n (Nat.lt_succ_self n) b ep _ s _ _ hx _ (fun a w hG' => ?_) a w hG
        show Exit.inBlock id Q (.exit id') a w
        unfold Exit.inBlock
        simp only [if_neg hid]
        exact hQ a w hG'
    · rename_i e1 s1 hx
      simp only [Option.some.injEq, Prod.mk.injEq] at h
      obtain ⟨rfl, _, rfl⟩ := h
      refine ih n (Nat.lt_succ_self n) b ep _ s _ _ hx _ (fun a w hG' => ?_) a w hG
      exact hQ a w hG'
    · cases h
  | scope b =>
    simp only [S.runCode] at h
    refine wp_scope_straight (ih n (Nat.lt_succ_self n) b ep _ s _ _ h _ (fun a w hG' => ?_) a w hG)
    have := hQ a w hG'
    cases ex <;> exact this
  | loop b =>
    refine wp_loop_ghost (fun m a w => m ≤ n + 1 ∧ ∃ ep s, GamX B N w0 H0 s a w ∧ S.runCode P N call m (.loop b) ep s = some (ex, ep', s')) (n + 1) ⟨Nat.le_refl _, ep, s, hG, h⟩ ?_
    rintro m a w ⟨hm, ep1, s1, hG1, h1⟩
    cases m with
    | zero => simp [S.runCode] at h1
    | succ m =>
      simp only [S.runCode] at h1
      split at h1
      · rename_i e2 s2 hx
        exact ih m (by omega) b ep1 _ s1 _ _ hx _ (fun a w hG' => ⟨m, Nat.lt_succ_self m, by omega, _, _, hG', h1⟩) a w hG1
      · rename_i id e2 s2 hx
        simp only [Option.some.injEq, Prod.mk.injEq] at h1
        obtain ⟨rfl, _, rfl⟩ := h1
        refine ih m (by omega) b ep1 _ s1 _ _ hx _ (fun a w hG' => ?_) a w hG1
        exact hQ a w hG'
      · rename_i e2 s2 hx
        simp only [Option.some.injEq, Prod.mk.injEq] at h1
        obtain ⟨rfl, _, rfl⟩ := h1
        refine ih m (by omega) b ep1 _ s1 _ _ hx _ (fun a w hG' => ?_) a w hG1
        exact hQ a w hG'
      · cases h1
  | rangeFunc f ps x y => simp [S.runCode] at h
  | goto l => simp [S.runCode] at h
  | refuse w => simp [S.runCode] at h

end

end Go.Proofs.YtlldagdhlfpihaaGreatDoor
