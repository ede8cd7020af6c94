/- BBln, Qj, BMeP, BMsP: joined.  Statements in memory, in blocks of which something is said. -/
import Derived.Test.YtlldagdhlfpihaaGreatDoorZBBld
import Derived.Test.YtlldagdhlfpihaaGreatDoorZBSpec
import Derived.Test.YtlldagdhlfpihaaGreatDoorZBMem
section
set_option linter.unusedVariables false
set_option linter.unusedSimpArgs false
set_option linter.unusedSectionVars false
namespace Go.Proofs.YtlldagdhlfpihaaGreatDoor
open Go.RowKit

set_option maxRecDepth 100000 in
set_option maxHeartbeats 1000000 in
theorem b_BuildNo (r : S.BR) (A : Option Addr) (c : Nat) (w : World) (hR : RAt2 w w.heap.size r A) (h0 : S.chkB r ≠ 0) :
    Calls Tryz.prog 42 #[rVal r A c] w fun e w' => e = .returned (.tuple #[.agg #[.string ⟨#[]⟩, .slice none 0 0], .int .i64 (S.chkB r)]) ∧ Below w.heap.size w w' := by
  have Hck := Lib.hid (fun (W : World) (hb : Below w.heap.size w W) => b_Check r A c W ((hR.below hb).more hb.size))
  obtain ⟨nm, P, L, bh, body⟩ := r
  unfold rVal at Hck ⊢
  simp only at Hck ⊢
  generalize S.chkB ⟨nm, P, L, bh, body⟩ = κ at *
  have hne : (κ != 0) = true := by simp [h0]
  obtain ⟨N, hN⟩ : ∃ N, N = body.length := ⟨_, rfl⟩
  rw [← hN] at Hck ⊢
  have HN := Lib.hid hN
  obtain ⟨t1, t2, t3, t4⟩ := two_blocks w (.cells #[.string nm, .int .i64 P, .int .i64 L, .bool bh, .slice A N c] 34) (.cells #[.string ⟨#[]⟩, .slice none 0 0] 98)
  have HbX := Lib.hid t3
  have HRX := Lib.hid t1
  have HOX := Lib.hid t2
  have hzX : w.heap.size + 2 ≤ ((w.alloc (.cells #[.string nm, .int .i64 P, .int .i64 L, .bool bh, .slice A N c] 34)).alloc (.cells #[.string ⟨#[]⟩, .slice none 0 0] 98)).heap.size := Nat.le_of_eq t4.symm
  clear hN t1 t2 t3 t4
  go_enter Tryz.func42, Tryz.ntmps42
  go_upto_region 1 with fail
  generalize (w.alloc (.cells #[.string nm, .int .i64 P, .int .i64 L, .bool bh, .slice A N c] 34)).alloc (.cells #[.string ⟨#[]⟩, .slice none 0 0] 98) = w2 at *
  have k0 : w2.cell? ⟨w.heap.size, 0, none⟩ = some (.string nm) := by rw [Lib.cell_of_heap HRX.out]; rfl
  have k1 : w2.cell? ⟨w.heap.size, 1, none⟩ = some (.int .i64 P) := by rw [Lib.cell_of_heap HRX.out]; rfl
  have k2 : w2.cell? ⟨w.heap.size, 2, none⟩ = some (.int .i64 L) := by rw [Lib.cell_of_heap HRX.out]; rfl
  have k3 : w2.cell? ⟨w.heap.size, 3, none⟩ = some (.bool bh) := by rw [Lib.cell_of_heap HRX.out]; rfl
  have k4 : w2.cell? ⟨w.heap.size, 4, none⟩ = some (.slice A N c) := by rw [Lib.cell_of_heap HRX.out]; rfl
  clear hR h0
  go_wp2_with fail
  refine (Hck.out w2 HbX.out).mono ?_
  rintro e w3 ⟨rfl, hb3⟩
  have Ho3 := Lib.hid ((hb3.block _ (by omega)).trans HOX.out)
  have j0 : w3.cell? ⟨w.heap.size + 1, 0, none⟩ = some (.string ⟨#[]⟩) := by rw [Lib.cell_of_heap Ho3.out]; rfl
  have j1 : w3.cell? ⟨w.heap.size + 1, 1, none⟩ = some (.slice none 0 0) := by rw [Lib.cell_of_heap Ho3.out]; rfl
  have f0 : w3.frozen? ⟨w.heap.size + 1, 0, none⟩ = false := Lib.frozen_of_heap Ho3.out 0
  have f1 : w3.frozen? ⟨w.heap.size + 1, 1, none⟩ = false := Lib.frozen_of_heap Ho3.out 1
  have HZ3 := Lib.hid (HbX.out.trans (hb3.mono HbX.out.size))
  clear k0 k1 k2 k3 k4 hb3 HRX HbX HOX hzX
  go_wp2_with fail
  (try simp only [Exit.inBlock, Exit.then])
  refine bodyPost_ret (v := .tuple #[.agg #[.string ⟨#[]⟩, .slice none 0 0], .int .i64 κ]) (by rw [results_cell_tmp rfl]; go_simp) rfl ⟨rfl, ?_⟩
  exact (HZ3.out.setCell (p := ⟨w.heap.size + 1, 0, none⟩) (by show w.heap.size ≤ w.heap.size + 1; omega) _).setCell (p := ⟨w.heap.size + 1, 1, none⟩) (by show w.heap.size ≤ w.heap.size + 1; omega) _

end Go.Proofs.YtlldagdhlfpihaaGreatDoor
end

section
set_option linter.unusedVariables false
set_option linter.unusedSimpArgs false
set_option linter.unusedSectionVars false
namespace Go.Proofs.YtlldagdhlfpihaaGreatDoor
open Go.RowKit

namespace S
def decEs : Nat → List AV → Option (List BE)
  | 0, _ => none
  | _ + 1, [] => some []
  | n + 1, .int .i64 op :: .int .i64 m :: .str name :: .row k cs :: r => match decEs n cs, decEs n r with
    | some ks, some rs => if k = ks.length ∧ name.size ≤ 1000 ∧ ks.length ≤ 1000 then some (.mk op m name ks :: rs) else none
    | _, _ => none
  | _, _ => none
def decIs : List AV → Option (List Int)
  | [] => some []
  | .int .i64 n :: r => match decIs r with
    | some ns => some (n :: ns)
    | none => none
  | _ => none
def decSs : Nat → List AV → Option (List BS)
  | 0, _ => none
  | _ + 1, [] => some []
  | n + 1, .int .i64 op :: .int .i64 m :: .str name :: .row k1 c1 :: .row k2 c2 :: .row k3 c3 :: .row k4 c4 :: r => match decEs n c1, decIs c2, decSs n c3, decSs n c4, decSs n r with
    | some es, some ns, some bs, some ls, some rs => if k1 = es.length ∧ k2 = ns.length ∧ k3 = bs.length ∧ k4 = ls.length ∧ name.size ≤ 1000 ∧ es.length ≤ 1000 ∧ ns.length ≤ 1000 ∧ bs.length ≤ 1000 ∧ ls.length ≤ 1000 then some (.mk op m name es ns bs ls :: rs) else none
    | _, _, _, _, _ => none
  | _, _ => none
def decR : AV → Option BR
  | .agg [.str name, .int .i64 p, .int .i64 l, .bool bh, .row k cs] => match decSs 400 cs with
    | some body => if k = body.length ∧ name.size ≤ 1000 ∧ body.length ≤ 1000 ∧ szSs body ≤ 1000000 then some ⟨name, p, l, bh, body⟩ else none
    | none => none
  | _ => none
def encItem (x : Item) : List AV := [.int .i64 x.kind, .int .i64 x.inst.op, .int .i64 x.inst.d, .int .i64 x.inst.a, .int .i64 x.inst.b, .int .i64 x.inst.imm, .str x.label, .int .u32 x.word]
def encItems (l : List Item) : List AV := l.flatMap encItem
/-- An object as a value's tree. -/
def encObj (name : ByteArray) (items : List Item) : List AV := [.str name, .row items.length (encItems items)]
end S

section
variable {H : Rowed} {w : World} {B : Nat} (hB : ∀ b k, H b = some k → b < B)
include hB
theorem decEs_kids : ∀ (n : Nat) {cs : List S.AV} {l : List S.BE} {b o : Nat}, S.decEs n cs = some l → RepC H w cs b o → EKids w B b o l
  | 0, cs, l, b, o, h, _ => by simp [S.decEs] at h
  | n + 1, cs, l, b, o, h, hc => by
    unfold S.decEs at h
    split at h
    · cases h
    · cases h
      rw [EKids]; trivial
    · rename_i n' op m name k ds r hq
      split at h
      · rename_i ks rs h1 h2
        rw [show n' = n from (Nat.succ.inj hq).symm] at h1 h2
        split at h
        · rename_i hh
          obtain ⟨hk, hn, hks⟩ := hh
          cases h
          rw [RepC, RepC, RepC, RepC] at hc
          obtain ⟨_, ⟨v1, hv1, r1⟩, _, ⟨v2, hv2, r2⟩, _, ⟨v3, hv3, r3⟩, _, ⟨v4, hv4, r4⟩, hr⟩ := hc
          rw [RepV] at r1
          rw [RepV] at r2
          rw [RepV] at r3
          rw [RepV] at r4
          subst r1 r2 r3
          obtain ⟨A, c, rfl, h0, hA, hds⟩ := r4
          rw [EKids, ECell]
          refine ⟨⟨hv1, hv2, hv3, by simp only [maxLen]; omega, by simp only [maxLen]; omega, A, c, by rw [← hk]; exact hv4, ?_⟩, decEs_kids n h2 hr⟩
          rcases hds with rfl | ⟨b', o', k', rfl, hH, _, hcc⟩
          · refine .inl ?_
            cases n with
            | zero => simp [S.decEs] at h1
            | succ n => simp [S.decEs] at h1; exact h1
          · exact .inr ⟨b', o', rfl, hB b' k' hH, decEs_kids n h1 hcc⟩
        · cases h
      · cases h
    · cases h
omit hB in
theorem decIs_ints : ∀ {cs : List S.AV} {l : List Int} {b o : Nat}, S.decIs cs = some l → RepC H w cs b o → ∀ i x, l[i]? = some x → w.cell? ⟨b, o + i, none⟩ = some (.int .i64 x)
  | [], l, b, o, h, _, i, x, hx => by
    simp [S.decIs] at h
    subst h
    simp at hx
  | y :: r, l, b, o, h, hc, i, x, hx => by
    unfold S.decIs at h
    split at h
    · rename_i heq; cases heq
    · rename_i n r' heq
      cases heq
      split at h
      · rename_i ns h1
        cases h
        rw [RepC] at hc
        obtain ⟨_, ⟨v, hv, hr⟩, hcr⟩ := hc
        rw [RepV] at hr
        subst hr
        cases i with
        | zero => simp at hx; subst hx; exact hv
        | succ i =>
          rw [show o + (i + 1) = o + 1 + i by omega]
          exact decIs_ints h1 hcr i x (by simpa using hx)
      · cases h
    · cases h
omit hB in
theorem decEs_nil {n : Nat} {l : List S.BE} (h : S.decEs n [] = some l) : l = [] := by
  cases n with
  | zero => simp [S.decEs] at h
  | succ n => simp [S.decEs] at h; exact h
omit hB in
theorem decSs_nil {n : Nat} {l : List S.BS} (h : S.decSs n [] = some l) : l = [] := by
  cases n with
  | zero => simp [S.decSs] at h
  | succ n => simp [S.decSs] at h; exact h
theorem decSs_kids : ∀ (n : Nat) {cs : List S.AV} {l : List S.BS} {b o : Nat}, S.decSs n cs = some l → RepC H w cs b o → SKids w B b o l
  | 0, cs, l, b, o, h, _ => by simp [S.decSs] at h
  | n + 1, cs, l, b, o, h, hc => by
    unfold S.decSs at h
    split at h
    · cases h
    · cases h
      rw [SKids]; trivial
    · rename_i n' op m name k1 c1 k2 c2 k3 c3 k4 c4 r hq
      split at h
      · rename_i es ns bs ls rs h1 h2 h3 h4 h5
        rw [show n' = n from (Nat.succ.inj hq).symm] at h1 h3 h4 h5
        split at h
        · rename_i hh
          obtain ⟨q1, q2, q3, q4, q5, q6, q7, q8, q9⟩ := hh
          cases h
          rw [RepC, RepC, RepC, RepC, RepC, RepC, RepC] at hc
          obtain ⟨_, ⟨v1, hv1, r1⟩, _, ⟨v2, hv2, r2⟩, _, ⟨v3, hv3, r3⟩, _, ⟨v4, hv4, r4⟩, _, ⟨v5, hv5, r5⟩, _, ⟨v6, hv6, r6⟩, _, ⟨v7, hv7, r7⟩, hr⟩ := hc
          rw [RepV] at r1
          rw [RepV] at r2
          rw [RepV] at r3
          rw [RepV] at r4
          rw [RepV] at r5
          rw [RepV] at r6
          rw [RepV] at r7
          subst r1 r2 r3
          obtain ⟨A4, a4, rfl, _, _, hd4⟩ := r4
          obtain ⟨A5, a5, rfl, _, _, hd5⟩ := r5
          obtain ⟨A6, a6, rfl, _, _, hd6⟩ := r6
          obtain ⟨A7, a7, rfl, _, _, hd7⟩ := r7
          rw [SKids, SCell]
          refine ⟨⟨hv1, hv2, hv3, by simp only [maxLen]; omega, by simp only [maxLen]; omega, by simp only [maxLen]; omega, by simp only [maxLen]; omega, by simp only [maxLen]; omega, ⟨A4, a4, by rw [← q1]; exact hv4, ?_⟩, ⟨A5, a5, by rw [← q2]; exact hv5, ?_⟩, ⟨A6, a6, by rw [← q3]; exact hv6, ?_⟩, ⟨A7, a7, by rw [← q4]; exact hv7, ?_⟩⟩, decSs_kids n h5 hr⟩
          · rcases hd4 with rfl | ⟨b', o', k', rfl, hH, _, hcc⟩
            · exact .inl (decEs_nil h1)
            · exact .inr ⟨b', o', rfl, hB b' k' hH, decEs_kids hB n h1 hcc⟩
          · intro hpos
            rcases hd5 with rfl | ⟨b', o', k', rfl, hH, _, hcc⟩
            · simp [S.decIs] at h2
              subst h2
              simp at hpos
            · exact ⟨b', o', rfl, hB b' k' hH, decIs_ints h2 hcc⟩
          · rcases hd6 with rfl | ⟨b', o', k', rfl, hH, _, hcc⟩
            · exact .inl (decSs_nil h3)
            · exact .inr ⟨b', o', rfl, hB b' k' hH, decSs_kids n h3 hcc⟩
          · rcases hd7 with rfl | ⟨b', o', k', rfl, hH, _, hcc⟩
            · exact .inl (decSs_nil h4)
            · exact .inr ⟨b', o', rfl, hB b' k' hH, decSs_kids n h4 hcc⟩
        · cases h
      · cases h
    · cases h
/-- A routine's tree is a routine in memory. -/
theorem decR_at {x : S.AV} {r : S.BR} {v : Value} (h : S.decR x = some r) (hv : RepV H w x v) : ∃ A c, v = rVal r A c ∧ RAt2 w B r A := by
  unfold S.decR at h
  split at h
  · rename_i name p l bh k cs
    split at h
    · rename_i body h1
      split at h
      · rename_i hh
        obtain ⟨hk, hn, hb, hsz⟩ := hh
        cases h
        rw [RepV] at hv
        obtain ⟨vs, rfl, hl⟩ := hv
        rw [RepL] at hl
        obtain ⟨v1, r1, rfl, _, q1, hl⟩ := hl
        rw [RepL] at hl
        obtain ⟨v2, r2, rfl, _, q2, hl⟩ := hl
        rw [RepL] at hl
        obtain ⟨v3, r3, rfl, _, q3, hl⟩ := hl
        rw [RepL] at hl
        obtain ⟨v4, r4, rfl, _, q4, hl⟩ := hl
        rw [RepL] at hl
        obtain ⟨v5, r5, rfl, _, q5, hl⟩ := hl
        rw [RepL] at hl
        subst hl
        rw [RepV] at q1
        rw [RepV] at q2
        rw [RepV] at q3
        rw [RepV] at q4
        rw [RepV] at q5
        subst q1 q2 q3 q4
        obtain ⟨A, c, rfl, _, _, hd⟩ := q5
        refine ⟨A, c, by unfold rVal; rw [hk], ⟨by show name.size ≤ _; simp only [maxLen]; omega, ?_, by show szSs body ≤ _; omega⟩⟩
        rcases hd with rfl | ⟨b', o', k', rfl, hH, _, hcc⟩
        · exact .inl (decSs_nil h1)
        · exact .inr ⟨b', o', rfl, hB b' k' hH, decSs_kids hB 400 h1 hcc⟩
      · cases h
    · cases h
  · cases h
end

theorem encItems_rep (H : Rowed) (w : World) : ∀ l : List S.Item, RepL H w (S.encItems l) (l.flatMap itemCells)
  | [] => by unfold S.encItems; rw [List.flatMap_nil, RepL]; rfl
  | x :: r => by
    unfold S.encItems
    rw [List.flatMap_cons, List.flatMap_cons]
    refine RepL.append ?_ (encItems_rep H w r)
    unfold S.encItem itemCells
    repeat (rw [RepL]; refine ⟨_, _, rfl, rfl, by rw [RepV], ?_⟩)
    rw [RepL]
namespace S
def buildA (x : AV) : Option (AV × Tail) := match decR x with
  | some r => if chkB r = 0 then (if szSs r.body ≤ 1000000 ∧ (bItems r).length ≤ 1000000 then some (.tup [.agg (encObj r.name (bItems r)), .int .i64 0], none) else none)
    else some (.tup [.agg [.str ⟨#[]⟩, .row 0 []], .int .i64 (chkB r)], none)
  | none => none
def itoaA (x : AV) : Option (AV × Tail) := match x with
  | .int .i64 n => if -9223372036854775808 ≤ n ∧ n ≤ 9223372036854775807 then some (.str ⟨(itoa n).toArray⟩, none) else none
  | _ => none
def orcB (f : FuncId) (xs : List AV) : Option (AV × Tail) :=
  if f = 145 then (match xs with | [x] => itoaA x | _ => none) else if f = 42 then (match xs with | [x] => buildA x | _ => none) else none
end S

/-- A new row that a contract tells of. -/
theorem row_new {H : Rowed} {w w' : World} {n : Nat} {A : Option Addr} {c : Nat} {t : TypeId} {z : Nat} {cs : List S.AV} {xs : List Value} (hbnd : ∀ b k, H b = some k → b < w.heap.size) (hb : Below w.heap.size w w')
    (ho : w'.ownsRow w.heap.size t z (.slice A n c) n xs) (hx : ∀ H w, RepL H w cs xs) (hz : 0 < z) : ∃ H' : Rowed, (∀ b, b < w.heap.size → H' b = H b) ∧ (∀ b k, H' b = some k → b < w'.heap.size) ∧ RepV H' w' (.row n cs) (.slice A n c) := by
  have hlen : cs.length = n * z := by rw [← ho.1]; exact (RepL.length (hx H w)).symm
  rcases ho.2 with ⟨e, rfl⟩ | ⟨g, cap, cur, e, hg, hcur, hn, hcm, hsz, htake⟩
  · cases e
    refine ⟨H, fun _ _ => rfl, fun b k hk => Nat.lt_of_lt_of_le (hbnd b k hk) hb.size, ?_⟩
    rw [RepV]
    exact ⟨none, 0, rfl, fun _ => List.eq_nil_of_length_eq_zero (by rw [hlen]; simp), fun _ => rfl, .inl (List.eq_nil_of_length_eq_zero (by rw [hlen]; simp))⟩
  · cases e
    refine ⟨fun b => if b = g then some cs.length else H b, fun b hb' => by simp only; rw [if_neg (by omega)], fun b k hk => ?_, ?_⟩
    · simp only at hk
      by_cases h : b = g
      · rw [h]; exact (Array.getElem?_eq_some_iff.1 hcur).1
      · rw [if_neg h] at hk; exact Nat.lt_of_lt_of_le (hbnd b k hk) hb.size
    · rw [RepV]
      refine ⟨_, _, rfl, fun h0 => List.eq_nil_of_length_eq_zero (by rw [hlen, h0]; simp), fun h0 => (by cases h0), .inr ⟨g, 0, cs.length, rfl, by simp, by omega, repC_of (hx _ _) fun j u hj => ?_⟩⟩
      rw [Lib.cell_of_heap hcur, Nat.zero_add]
      have hj2 : j < n * z := by rw [← ho.1]; exact (List.getElem?_eq_some_iff.1 hj).1
      rw [← htake, List.getElem?_take, if_pos hj2] at hj
      simpa using hj

theorem build_sound {x : S.AV} {r : S.AV} {y : S.Tail} (h : S.buildA x = some (r, y)) : AFn Tryz.prog LVE 42 [x] r y := by
  intro H w vs hbnd hL hrep
  rw [RepT] at hrep
  obtain ⟨v, us, rfl, hv, hus⟩ := hrep
  rw [RepT] at hus
  subst hus
  unfold S.buildA at h
  split at h
  · rename_i br hbr
    obtain ⟨A, c, rfl, hat⟩ := decR_at hbnd hbr hv
    split at h
    · rename_i h0
      split at h
      · rename_i hh
        cases h
        refine (b_Build br A c w hat h0 hh.1 hL (by omega)).mono ?_
        rintro e w' ⟨A', c', rfl, ho, hb⟩
        obtain ⟨H', p1, p2, p3⟩ := row_new hbnd hb ho (fun H w => encItems_rep H w (S.bItems br)) (by decide)
        refine ⟨_, H', rfl, hb, p1, p2, ?_, fun z hz => by cases hz⟩
        rw [RepV]
        refine ⟨[_, _], rfl, ?_⟩
        rw [RepT]
        refine ⟨_, _, rfl, ?_, ?_⟩
        · rw [RepV]
          refine ⟨[_, _], rfl, ?_⟩
          unfold S.encObj
          rw [RepL]
          refine ⟨_, _, rfl, rfl, by rw [RepV], ?_⟩
          rw [RepL]
          exact ⟨_, _, rfl, rfl, p3, by rw [RepL]⟩
        · rw [RepT]
          exact ⟨_, _, rfl, by rw [RepV], by rw [RepT]⟩
      · cases h
    · rename_i h0
      cases h
      refine (b_BuildNo br A c w hat h0).mono ?_
      rintro e w' ⟨rfl, hb⟩
      refine ⟨_, H, rfl, hb, fun _ _ => rfl, fun b k hk => Nat.lt_of_lt_of_le (hbnd b k hk) hb.size, ?_, fun z hz => by cases hz⟩
      rw [RepV]
      refine ⟨[_, _], rfl, ?_⟩
      rw [RepT]
      refine ⟨_, _, rfl, ?_, ?_⟩
      · rw [RepV]
        refine ⟨[_, _], rfl, ?_⟩
        rw [RepL]
        refine ⟨_, _, rfl, rfl, by rw [RepV], ?_⟩
        rw [RepL]
        refine ⟨_, _, rfl, rfl, ?_, by rw [RepL]⟩
        rw [RepV]
        exact ⟨none, 0, rfl, fun _ => rfl, fun _ => rfl, .inl rfl⟩
      · rw [RepT]
        exact ⟨_, _, rfl, by rw [RepV], by rw [RepT]⟩
  · cases h
theorem itoa_sound {x : S.AV} {r : S.AV} {y : S.Tail} (h : S.itoaA x = some (r, y)) : AFn Tryz.prog LVE 145 [x] r y := by
  intro H w vs hbnd hL hrep
  rw [RepT] at hrep
  obtain ⟨v, us, rfl, hv, hus⟩ := hrep
  rw [RepT] at hus
  subst hus
  unfold S.itoaA at h
  split at h
  · rename_i n
    split at h
    · rename_i hh
      cases h
      rw [RepV] at hv
      subst hv
      refine (e_Itoa n ⟨by omega, by omega⟩ w hL).mono ?_
      rintro e w' ⟨rfl, hb⟩
      exact ⟨_, H, rfl, hb, fun _ _ => rfl, fun b k hk => Nat.lt_of_lt_of_le (hbnd b k hk) hb.size, by rw [RepV], fun z hz => by cases hz⟩
    · cases h
  · cases h
theorem orcB_sound (f : FuncId) (xs : List S.AV) (r : S.AV) (y : S.Tail) (h : S.orcB f xs = some (r, y)) : AFn Tryz.prog LVE f xs r y := by
  unfold S.orcB at h
  split at h
  · rename_i hf
    subst hf
    split at h
    · exact itoa_sound h
    · cases h
  · split at h
    · rename_i hf
      subst hf
      split at h
      · exact build_sound h
      · cases h
    · cases h
end Go.Proofs.YtlldagdhlfpihaaGreatDoor
end

section
set_option linter.unusedVariables false
set_option linter.unusedSimpArgs false
set_option linter.unusedSectionVars false
namespace Go.Proofs.YtlldagdhlfpihaaGreatDoor
open Go.RowKit

mutual
/-- An expression stands at a place; what it holds lies in blocks of P. -/
def ECellP (w : World) (P : Nat → Prop) (b o : Nat) : S.BE → Prop
  | .mk op n name kids => w.cell? ⟨b, o, none⟩ = some (.int .i64 op) ∧ w.cell? ⟨b, o + 1, none⟩ = some (.int .i64 n) ∧ w.cell? ⟨b, o + 2, none⟩ = some (.string name) ∧ name.size ≤ maxLen ∧ kids.length ≤ maxLen ∧
    ∃ A c, w.cell? ⟨b, o + 3, none⟩ = some (.slice A kids.length c) ∧ (kids = [] ∨ ∃ b' off, A = some ⟨b', off, none⟩ ∧ P b' ∧ EKidsP w P b' off kids)
def EKidsP (w : World) (P : Nat → Prop) (b o : Nat) : List S.BE → Prop
  | [] => True
  | e :: r => ECellP w P b o e ∧ EKidsP w P b (o + 4) r
end
def EListP (w : World) (P : Nat → Prop) (A : Option Addr) (l : List S.BE) : Prop := l = [] ∨ ∃ b off, A = some ⟨b, off, none⟩ ∧ P b ∧ EKidsP w P b off l
/-- Cells of P's blocks stay. -/
def KeepP (P : Nat → Prop) (w w' : World) : Prop := ∀ (k o : Nat) (x : Value), P k → w.cell? ⟨k, o, none⟩ = some x → w'.cell? ⟨k, o, none⟩ = some x
mutual
theorem ECellP.keep {w w' : World} {P : Nat → Prop} (h : KeepP P w w') {b o : Nat} (hb : P b) : ∀ {e : S.BE}, ECellP w P b o e → ECellP w' P b o e
  | .mk op n name kids, hh => by
    rw [ECellP] at hh ⊢
    obtain ⟨h1, h2, h3, h4, h5, A, c, h6, h7⟩ := hh
    refine ⟨h _ _ _ hb h1, h _ _ _ hb h2, h _ _ _ hb h3, h4, h5, A, c, h _ _ _ hb h6, ?_⟩
    rcases h7 with h7 | ⟨b', off, h8, h9, h10⟩
    · exact .inl h7
    · exact .inr ⟨b', off, h8, h9, EKidsP.keep h h9 h10⟩
theorem EKidsP.keep {w w' : World} {P : Nat → Prop} (h : KeepP P w w') {b o : Nat} (hb : P b) : ∀ {l : List S.BE}, EKidsP w P b o l → EKidsP w' P b o l
  | [], _ => by rw [EKidsP]; trivial
  | e :: r, hh => by
    rw [EKidsP] at hh ⊢
    exact ⟨ECellP.keep h hb hh.1, EKidsP.keep h hb hh.2⟩
end
mutual
theorem ECellP.more {w : World} {P Q : Nat → Prop} (h : ∀ k, P k → Q k) {b o : Nat} : ∀ {e : S.BE}, ECellP w P b o e → ECellP w Q b o e
  | .mk op n name kids, hh => by
    rw [ECellP] at hh ⊢
    obtain ⟨h1, h2, h3, h4, h5, A, c, h6, h7⟩ := hh
    refine ⟨h1, h2, h3, h4, h5, A, c, h6, ?_⟩
    rcases h7 with h7 | ⟨b', off, h8, h9, h10⟩
    · exact .inl h7
    · exact .inr ⟨b', off, h8, h _ h9, EKidsP.more h h10⟩
theorem EKidsP.more {w : World} {P Q : Nat → Prop} (h : ∀ k, P k → Q k) {b o : Nat} : ∀ {l : List S.BE}, EKidsP w P b o l → EKidsP w Q b o l
  | [], _ => by rw [EKidsP]; trivial
  | e :: r, hh => by
    rw [EKidsP] at hh ⊢
    exact ⟨ECellP.more h hh.1, EKidsP.more h hh.2⟩
end
mutual
theorem ECellP.to {w : World} {P : Nat → Prop} {B : Nat} (h : ∀ k, P k → k < B) {b o : Nat} : ∀ {e : S.BE}, ECellP w P b o e → ECell w B b o e
  | .mk op n name kids, hh => by
    rw [ECellP] at hh
    rw [ECell]
    obtain ⟨h1, h2, h3, h4, h5, A, c, h6, h7⟩ := hh
    refine ⟨h1, h2, h3, h4, h5, A, c, h6, ?_⟩
    rcases h7 with h7 | ⟨b', off, h8, h9, h10⟩
    · exact .inl h7
    · exact .inr ⟨b', off, h8, h _ h9, EKidsP.to h h10⟩
theorem EKidsP.to {w : World} {P : Nat → Prop} {B : Nat} (h : ∀ k, P k → k < B) {b o : Nat} : ∀ {l : List S.BE}, EKidsP w P b o l → EKids w B b o l
  | [], _ => by rw [EKids]; trivial
  | e :: r, hh => by
    rw [EKidsP] at hh
    rw [EKids]
    exact ⟨ECellP.to h hh.1, EKidsP.to h hh.2⟩
end
theorem EListP.keep {w w' : World} {P : Nat → Prop} {A : Option Addr} {l : List S.BE} (hh : EListP w P A l) (h : KeepP P w w') : EListP w' P A l := by
  rcases hh with hh | ⟨b, off, h1, h2, h3⟩
  · exact .inl hh
  · exact .inr ⟨b, off, h1, h2, h3.keep h h2⟩
theorem EListP.more {w : World} {P Q : Nat → Prop} {A : Option Addr} {l : List S.BE} (hh : EListP w P A l) (h : ∀ k, P k → Q k) : EListP w Q A l := by
  rcases hh with hh | ⟨b, off, h1, h2, h3⟩
  · exact .inl hh
  · exact .inr ⟨b, off, h1, h _ h2, h3.more h⟩
theorem EListP.to {w : World} {P : Nat → Prop} {B : Nat} {A : Option Addr} {l : List S.BE} (hh : EListP w P A l) (h : ∀ k, P k → k < B) : EList w B A l := by
  rcases hh with hh | ⟨b, off, h1, h2, h3⟩
  · exact .inl hh
  · exact .inr ⟨b, off, h1, h _ h2, h3.to h⟩

end Go.Proofs.YtlldagdhlfpihaaGreatDoor
end

section
set_option linter.unusedVariables false
set_option linter.unusedSimpArgs false
set_option linter.unusedSectionVars false
namespace Go.Proofs.YtlldagdhlfpihaaGreatDoor
open Go.RowKit

def IntsP (w : World) (P : Nat → Prop) (A : Option Addr) (xs : List Int) : Prop :=
  0 < xs.length → ∃ b off, A = some ⟨b, off, none⟩ ∧ P b ∧ ∀ i x, xs[i]? = some x → w.cell? ⟨b, off + i, none⟩ = some (.int .i64 x)
theorem IntsP.keep {w w' : World} {P : Nat → Prop} {A : Option Addr} {xs : List Int} (hh : IntsP w P A xs) (h : KeepP P w w') : IntsP w' P A xs := fun hp => by
  obtain ⟨b, off, e, hb, hc⟩ := hh hp
  exact ⟨b, off, e, hb, fun i x hx => h _ _ _ hb (hc i x hx)⟩
theorem IntsP.more {w : World} {P Q : Nat → Prop} {A : Option Addr} {xs : List Int} (hh : IntsP w P A xs) (h : ∀ k, P k → Q k) : IntsP w Q A xs := fun hp => by
  obtain ⟨b, off, e, hb, hc⟩ := hh hp
  exact ⟨b, off, e, h _ hb, hc⟩
theorem IntsP.to {w : World} {P : Nat → Prop} {B : Nat} {A : Option Addr} {xs : List Int} (hh : IntsP w P A xs) (h : ∀ k, P k → k < B) : Ints w B A xs := fun hp => by
  obtain ⟨b, off, e, hb, hc⟩ := hh hp
  exact ⟨b, off, e, h _ hb, hc⟩
mutual
/-- A statement stands at a place. -/
def SCellP (w : World) (P : Nat → Prop) (b o : Nat) : S.BS → Prop
  | .mk op n name exprs regs body els => w.cell? ⟨b, o, none⟩ = some (.int .i64 op) ∧ w.cell? ⟨b, o + 1, none⟩ = some (.int .i64 n) ∧ w.cell? ⟨b, o + 2, none⟩ = some (.string name) ∧ name.size ≤ maxLen ∧ exprs.length ≤ maxLen ∧ regs.length ≤ maxLen ∧ body.length ≤ maxLen ∧ els.length ≤ maxLen ∧
    (∃ A c, w.cell? ⟨b, o + 3, none⟩ = some (.slice A exprs.length c) ∧ EListP w P A exprs) ∧ (∃ A c, w.cell? ⟨b, o + 4, none⟩ = some (.slice A regs.length c) ∧ IntsP w P A regs) ∧
    (∃ A c, w.cell? ⟨b, o + 5, none⟩ = some (.slice A body.length c) ∧ (body = [] ∨ ∃ b' off, A = some ⟨b', off, none⟩ ∧ P b' ∧ SKidsP w P b' off body)) ∧
    (∃ A c, w.cell? ⟨b, o + 6, none⟩ = some (.slice A els.length c) ∧ (els = [] ∨ ∃ b' off, A = some ⟨b', off, none⟩ ∧ P b' ∧ SKidsP w P b' off els))
def SKidsP (w : World) (P : Nat → Prop) (b o : Nat) : List S.BS → Prop
  | [] => True
  | s :: r => SCellP w P b o s ∧ SKidsP w P b (o + 7) r
end
def SListP (w : World) (P : Nat → Prop) (A : Option Addr) (l : List S.BS) : Prop := l = [] ∨ ∃ b off, A = some ⟨b, off, none⟩ ∧ P b ∧ SKidsP w P b off l
mutual
theorem SCellP.keep {w w' : World} {P : Nat → Prop} (h : KeepP P w w') {b o : Nat} (hb : P b) : ∀ {s : S.BS}, SCellP w P b o s → SCellP w' P b o s
  | .mk op n name exprs regs body els, hh => by
    rw [SCellP] at hh
    obtain ⟨h1, h2, h3, h4, h5, h6, h7, h8, ⟨A1, c1, a1, a2⟩, ⟨A2, c2, b1, b2⟩, ⟨A3, c3, d1, d2⟩, ⟨A4, c4, e1, e2⟩⟩ := hh
    rw [SCellP]
    refine ⟨h _ _ _ hb h1, h _ _ _ hb h2, h _ _ _ hb h3, h4, h5, h6, h7, h8, ⟨A1, c1, h _ _ _ hb a1, a2.keep h⟩, ⟨A2, c2, h _ _ _ hb b1, b2.keep h⟩, ⟨A3, c3, h _ _ _ hb d1, ?_⟩, ⟨A4, c4, h _ _ _ hb e1, ?_⟩⟩
    · rcases d2 with d2 | ⟨b', off, q1, q2, q3⟩
      · exact .inl d2
      · exact .inr ⟨b', off, q1, q2, SKidsP.keep h q2 q3⟩
    · rcases e2 with e2 | ⟨b', off, q1, q2, q3⟩
      · exact .inl e2
      · exact .inr ⟨b', off, q1, q2, SKidsP.keep h q2 q3⟩
theorem SKidsP.keep {w w' : World} {P : Nat → Prop} (h : KeepP P w w') {b o : Nat} (hb : P b) : ∀ {l : List S.BS}, SKidsP w P b o l → SKidsP w' P b o l
  | [], _ => by rw [SKidsP]; trivial
  | e :: r, hh => by
    rw [SKidsP] at hh ⊢
    exact ⟨SCellP.keep h hb hh.1, SKidsP.keep h hb hh.2⟩
end
mutual
theorem SCellP.more {w : World} {P Q : Nat → Prop} (h : ∀ k, P k → Q k) {b o : Nat} : ∀ {s : S.BS}, SCellP w P b o s → SCellP w Q b o s
  | .mk op n name exprs regs body els, hh => by
    rw [SCellP] at hh
    obtain ⟨h1, h2, h3, h4, h5, h6, h7, h8, ⟨A1, c1, a1, a2⟩, ⟨A2, c2, b1, b2⟩, ⟨A3, c3, d1, d2⟩, ⟨A4, c4, e1, e2⟩⟩ := hh
    rw [SCellP]
    refine ⟨id h1, id h2, id h3, h4, h5, h6, h7, h8, ⟨A1, c1, id a1, a2.more h⟩, ⟨A2, c2, id b1, b2.more h⟩, ⟨A3, c3, id d1, ?_⟩, ⟨A4, c4, id e1, ?_⟩⟩
    · rcases d2 with d2 | ⟨b', off, q1, q2, q3⟩
      · exact .inl d2
      · exact .inr ⟨b', off, q1, h _ q2, SKidsP.more h q3⟩
    · rcases e2 with e2 | ⟨b', off, q1, q2, q3⟩
      · exact .inl e2
      · exact .inr ⟨b', off, q1, h _ q2, SKidsP.more h q3⟩
theorem SKidsP.more {w : World} {P Q : Nat → Prop} (h : ∀ k, P k → Q k) {b o : Nat} : ∀ {l : List S.BS}, SKidsP w P b o l → SKidsP w Q b o l
  | [], _ => by rw [SKidsP]; trivial
  | e :: r, hh => by
    rw [SKidsP] at hh ⊢
    exact ⟨SCellP.more h hh.1, SKidsP.more h hh.2⟩
end
mutual
theorem SCellP.to {w : World} {P : Nat → Prop} {B : Nat} (h : ∀ k, P k → k < B) {b o : Nat} : ∀ {s : S.BS}, SCellP w P b o s → SCell w B b o s
  | .mk op n name exprs regs body els, hh => by
    rw [SCellP] at hh
    obtain ⟨h1, h2, h3, h4, h5, h6, h7, h8, ⟨A1, c1, a1, a2⟩, ⟨A2, c2, b1, b2⟩, ⟨A3, c3, d1, d2⟩, ⟨A4, c4, e1, e2⟩⟩ := hh
    rw [SCell]
    refine ⟨id h1, id h2, id h3, h4, h5, h6, h7, h8, ⟨A1, c1, id a1, a2.to h⟩, ⟨A2, c2, id b1, b2.to h⟩, ⟨A3, c3, id d1, ?_⟩, ⟨A4, c4, id e1, ?_⟩⟩
    · rcases d2 with d2 | ⟨b', off, q1, q2, q3⟩
      · exact .inl d2
      · exact .inr ⟨b', off, q1, h _ q2, SKidsP.to h q3⟩
    · rcases e2 with e2 | ⟨b', off, q1, q2, q3⟩
      · exact .inl e2
      · exact .inr ⟨b', off, q1, h _ q2, SKidsP.to h q3⟩
theorem SKidsP.to {w : World} {P : Nat → Prop} {B : Nat} (h : ∀ k, P k → k < B) {b o : Nat} : ∀ {l : List S.BS}, SKidsP w P b o l → SKids w B b o l
  | [], _ => by rw [SKids]; trivial
  | e :: r, hh => by
    rw [SKidsP] at hh; rw [SKids]
    exact ⟨SCellP.to h hh.1, SKidsP.to h hh.2⟩
end
theorem SListP.keep {w w' : World} {P : Nat → Prop} {A : Option Addr} {l : List S.BS} (hh : SListP w P A l) (h : KeepP P w w') : SListP w' P A l := by
  rcases hh with hh | ⟨b, off, h1, h2, h3⟩
  · exact .inl hh
  · exact .inr ⟨b, off, h1, h2, h3.keep h h2⟩
theorem SListP.more {w : World} {P Q : Nat → Prop} {A : Option Addr} {l : List S.BS} (hh : SListP w P A l) (h : ∀ k, P k → Q k) : SListP w Q A l := by
  rcases hh with hh | ⟨b, off, h1, h2, h3⟩
  · exact .inl hh
  · exact .inr ⟨b, off, h1, h _ h2, h3.more h⟩
theorem SListP.to {w : World} {P : Nat → Prop} {B : Nat} {A : Option Addr} {l : List S.BS} (hh : SListP w P A l) (h : ∀ k, P k → k < B) : SList w B A l := by
  rcases hh with hh | ⟨b, off, h1, h2, h3⟩
  · exact .inl hh
  · exact .inr ⟨b, off, h1, h _ h2, h3.to h⟩

end Go.Proofs.YtlldagdhlfpihaaGreatDoor
end
