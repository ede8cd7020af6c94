/- Walk of layer 25's answer: what a routine comes back with. -/
import Derived.Test.YtlldagdhlfpihaaGreatDoorZBLwS
import Derived.Test.YtlldagdhlfpihaaGreatDoorZBReg
import Derived.Test.YtlldagdhlfpihaaGreatDoorZBAnL
import Derived.Test.YtlldagdhlfpihaaGreatDoorZMachX
import Derived.Test.YtlldagdhlfpihaaGreatDoorZBMsP
set_option linter.unusedVariables false
set_option linter.unusedSimpArgs false
set_option linter.unusedSectionVars false
namespace Go.Proofs.YtlldagdhlfpihaaGreatDoor
open Go.RowKit

theorem objs_two {w : World} {b B : Nat} {t : TypeId} {a o : S.Obj} {A A' : Option Addr} {n n' c c' : Nat} {s s' : ByteArray} (h : w.heap[b]? = some (.cells #[.string s, .slice A n c, .string s', .slice A' n' c'] t (0, 0))) (hb : b < B)
    (hI : Items w B A a.items) (hI' : Items w B A' o.items) (hn : ∀ q ∈ [a, o], q.name.size ≤ maxLen ∧ ∀ y ∈ q.items, y.label.size ≤ maxLen) (es : s = a.name) (es' : s' = o.name) (en : n = a.items.length) (en' : n' = o.items.length) : Objs w B (some ⟨b, 0, none⟩) [a, o] := by
  subst es es' en en'
  have hc : ∀ k, w.cell? ⟨b, k, none⟩ = (#[.string a.name, .slice A a.items.length c, .string o.name, .slice A' o.items.length c'] : Array Value)[k]? := fun k => by rw [Lib.cell_of_heap h]
  refine fun _ => ⟨b, 0, rfl, hb, fun i x hx => ?_⟩
  match i, hx with
  | 0, hx => simp at hx; subst hx; exact ⟨hc 0, ⟨A, c, hc 1, hI⟩, (hn _ (by simp)).1, (hn _ (by simp)).2⟩
  | 1, hx => simp at hx; subst hx; exact ⟨hc 2, ⟨A', c', hc 3, hI'⟩, (hn _ (by simp)).1, (hn _ (by simp)).2⟩
  | k + 2, hx => simp at hx
/-- The link of such a routine and its start. -/
theorem call_link {r : S.BR} (hk : AnsOk r) {K M : Nat} {Y X : List Value} (hK : K = (S.sItems r.name r.behind).length) (hY : Y = (S.sItems r.name r.behind).flatMap itemCells) (hM : M = (S.bItems r).length) (hX : X = (S.bItems r).flatMap itemCells)
    {A2 : Option Addr} {c2 B B2 : Nat} (W : World) (b : Nat) (A' : Option Addr) (c' : Nat) (hbz : b < W.heap.size) (hblk : W.heap[b]? = some (.cells #[.string S.kStart, .slice A' K c', .string r.name, .slice A2 M c2] 98 (0, 0)))
    (ho : W.ownsRow B 152 8 (.slice A' K c') K Y) (ho2 : W.ownsRow B2 152 8 (.slice A2 M c2) M X) :
    Calls Tryz.prog 43 #[.slice (some ⟨b, 0, none⟩) 2 2, .int .i64 0] W (Linked (S.ansObjs r) 0 W) := by
  subst hK hY hM hX
  obtain ⟨hs1, hs2⟩ := sItems_facts hk.nsz r.behind
  have hlen : (S.joined (S.ansObjs r)).length = (S.sItems r.name r.behind).length + (S.bItems r).length := by rw [joined_ans]; simp
  have h5 := (tells_sItems r.name r.behind).2.2.2.2
  have h6 := hk.len
  have h7 : S.kStart.size = 5 := rfl
  have h8 := hk.nsz
  have hO : Objs W W.heap.size (some ⟨b, 0, none⟩) (S.ansObjs r) := by
    refine objs_two hblk hbz (Items.of_own ho hs1) (Items.of_own ho2 hk.words) (fun q hq => ?_) rfl rfl rfl rfl
    simp at hq
    rcases hq with rfl | rfl
    · exact ⟨by simp only [maxLen]; show S.kStart.size ≤ _; omega, fun y hy => by have := hs2 y hy; simp only [maxLen]; omega⟩
    · exact ⟨by simp only [maxLen]; show r.name.size ≤ _; omega, fun y hy => by have := hk.labs y hy; simp only [maxLen]; omega⟩
  refine link_Link (some ⟨b, 0, none⟩) 2 (S.ansObjs r) 0 W hO (by show (2 : Nat) ≤ 1048576; omega) (by rw [hlen, h5]; split <;> omega) ?_
  intro k o hko x hx
  have hm := List.mem_of_getElem? hko
  simp [S.ansObjs] at hm
  rcases hm with rfl | rfl
  · have := hs2 x hx
    show S.kStart.size + _ ≤ _
    omega
  · have := hk.labs x hx
    show r.name.size + _ ≤ _
    omega

theorem setRow_two {W : World} {b : Nat} {t : TypeId} {u0 u1 : Value} (v0 v1 : Value) (h : W.heap[b]? = some (.cells #[u0, u1] t (0, 0))) : W.setRow b #[v0, v1] = (W.setCell ⟨b, 0, none⟩ v0).setCell ⟨b, 1, none⟩ v1 := by
  have hlt := (Array.getElem?_eq_some_iff.1 h).1
  have hv := (Array.getElem?_eq_some_iff.1 h).2
  unfold World.setRow World.setCell
  simp only
  congr 1
  apply Array.ext
  · simp
  · intro i h1 h2
    by_cases c : b = i
    · subst c
      simp [Array.getElem_modify, hv]
    · simp [Array.getElem_modify, c]
theorem ownsRow_less {w : World} {base base' : Nat} {e : TypeId} {size : Nat} {v : Value} {n : Nat} {xs : List Value} (h : w.ownsRow base e size v n xs) (hb : base' ≤ base) : w.ownsRow base' e size v n xs := by
  refine ⟨h.1, ?_⟩
  rcases h.2 with h1 | ⟨g, cap, cur, h1, h2, h3⟩
  · exact .inl h1
  · exact .inr ⟨g, cap, cur, h1, Nat.le_trans hb h2, h3⟩
theorem wp_callf {P : Program} {o : Oper} {a : Act} {w : World} {K : Act → World → Prop} {Q : Exit → Act → World → Prop} {c : Call} (f : FuncId) (args : Array Value) (ho : o.op = .call c) (hc : c.callee = .value (.func f)) (hok : S.okFn P f = true) (ha : c.args.map a.eval = args)
    (h : Calls P f args w fun e w' => ∃ v, e = .returned v ∧ K (a.put o.dst v) w') : o.wp P a w K Q := by
  obtain ⟨fn, hfn, hbody, hname⟩ : ∃ fn, P.funcs[f]? = some fn ∧ fn.body.isNone = false ∧ (fn.name == "runtime.NumGoroutine") = false := by
    unfold S.okFn at hok
    split at hok
    · rename_i fn hfn
      simp only [Bool.and_eq_true, Bool.not_eq_true'] at hok
      exact ⟨fn, hfn, by have := hok.1; cases hb : fn.body <;> simp_all, hok.2⟩
    · cases hok
  have hex : (execOp a.eval o).run P w = .ok (.enter f (c.args.map a.eval)) w := by
    unfold execOp
    have hv : a.eval (.func f) = .func (.func f) #[] #[] := rfl
    simp only [ho, resolve, hc, hv, Deferred.ofValue, Sem.run_bind, Sem.run_pure, Result.andThen_ok, invoke, callFunc, run_program, hfn, hname, hbody, Bool.false_eq_true, if_false, Array.empty_append, Array.append_empty]
  unfold Oper.wp
  rw [hex, ha]
  refine Calls.mono h ?_
  rintro e w' ⟨v, rfl, hK⟩
  exact hK
/-- What the operations of answer's great region leave. -/
def ansF (nm : ByteArray) (P L : Int) (bh : Bool) (body : List S.BS) (A : Option Addr) (N c : Nat) (A2 : Option Addr) (M c2 K : Nat) (Y : List Value) (B : Nat) : Nat → Value → List Value → World → Prop
  | 0, v, _, W => v = .agg #[.string nm, .int .i64 P, .int .i64 L, .bool bh, .slice A N c]
  | 1, v, _, W => ∃ A' c', v = .agg #[.string S.kStart, .slice A' K c'] ∧ W.ownsRow B 152 8 (.slice A' K c') K Y
  | 2, v, _, W => v = .agg #[.string nm, .slice A2 M c2]
  | 3, v, _, W => ∃ b A' c', v = .slice (some ⟨b, 0, none⟩) 2 2 ∧ b < W.heap.size ∧ W.heap[b]? = some (.cells #[.string S.kStart, .slice A' K c', .string nm, .slice A2 M c2] 98 (0, 0)) ∧ W.ownsRow B 152 8 (.slice A' K c') K Y
  | 4, v, _, W => ∃ Ao co Ap np cp T U, v = .tuple #[.agg #[.slice Ao T.length co, .slice Ap np cp], .int .i64 0] ∧ LinkRes (S.ansObjs ⟨nm, P, L, bh, body⟩) 0 0 T U ∧ W.ownsRow B 30 1 (.slice Ao T.length co) T.length (T.map (Value.int .u32))
  | 5, v, _, W => ∃ Ao co Ap np cp T U, v = .tuple #[.agg #[.slice Ao T.length co, .slice Ap np cp], .int .i64 0] ∧ LinkRes (S.ansObjs ⟨nm, P, L, bh, body⟩) 0 0 T U ∧ W.ownsRow B 30 1 (.slice Ao T.length co) T.length (T.map (Value.int .u32))
  | 6, v, _, W => ∃ Ao co Ap np cp T U, v = .agg #[.slice Ao T.length co, .slice Ap np cp] ∧ LinkRes (S.ansObjs ⟨nm, P, L, bh, body⟩) 0 0 T U ∧ W.ownsRow B 30 1 (.slice Ao T.length co) T.length (T.map (Value.int .u32))
  | 7, v, _, W => v = .int .i64 0
  | 8, v, _, W => ∃ b u0 u1, v = .pointer (some ⟨b, 0, none⟩) ∧ B ≤ b ∧ b < W.heap.size ∧ W.heap[b]? = some (.cells #[u0, u1] 69 (0, 0))
  | 9, _, r, W => ∃ b Ao co Ap np cp T U, r = [.pointer (some ⟨b, 0, none⟩)] ∧ b < W.heap.size ∧ W.heap[b]? = some (.cells #[.slice Ao T.length co, .slice Ap np cp] 69 (0, 0)) ∧ LinkRes (S.ansObjs ⟨nm, P, L, bh, body⟩) 0 0 T U ∧ W.ownsRow B 30 1 (.slice Ao T.length co) T.length (T.map (Value.int .u32))
  | _, _, _, _ => True
def ansS (B : Nat) (i : Nat) (W W' : World) : Prop :=
  if i = 9 then ∃ b u0 u1 v0 v1, B ≤ b ∧ b < W.heap.size ∧ W.heap[b]? = some (.cells #[u0, u1] 69 (0, 0)) ∧ W'.heap[b]? = some (.cells #[v0, v1] 69 (0, 0)) ∧ W' = (W.setCell ⟨b, 0, none⟩ v0).setCell ⟨b, 1, none⟩ v1
  else Below W.heap.size W W'
theorem ans_stable (nm : ByteArray) (P L : Int) (bh : Bool) (body : List S.BS) (A : Option Addr) (N c : Nat) (A2 : Option Addr) (M c2 K : Nat) (Y : List Value) (B : Nat) : ∀ i j v r w w', i ≠ j → ansF nm P L bh body A N c A2 M c2 K Y B j v r w → ansS B i w w' → ansF nm P L bh body A N c A2 M c2 K Y B j v r w' := by
  intro i j v r W W' hij h hs
  unfold ansS at hs
  by_cases hi : i = 9
  · rw [if_pos hi] at hs
    obtain ⟨b, u0, u1, v0, v1, hB, hbz, hblk, hblk', rfl⟩ := hs
    have hz : ((W.setCell ⟨b, 0, none⟩ v0).setCell ⟨b, 1, none⟩ v1).heap.size = W.heap.size := by simp [World.setCell]
    have hk : ∀ k, k ≠ b → ((W.setCell ⟨b, 0, none⟩ v0).setCell ⟨b, 1, none⟩ v1).heap[k]? = W.heap[k]? := fun k hk => by
      rw [Below.heap_setCell _ _ _ _ hk, Below.heap_setCell _ _ _ _ hk]
    have ho : ∀ {B : Nat} {e : TypeId} {size : Nat} {v : Value} {n : Nat} {xs : List Value}, 69 ≠ e → W.ownsRow B e size v n xs → ((W.setCell ⟨b, 0, none⟩ v0).setCell ⟨b, 1, none⟩ v1).ownsRow B e size v n xs := fun hne h => by
      have h1 := own_neB h hblk hne
      exact ownsRow_setCell_other (a := ⟨b, 1, none⟩) (ownsRow_setCell_other (a := ⟨b, 0, none⟩) h h1 _) h1 _
    match j, h with
    | 0, h => exact h
    | 1, ⟨A', c', h1, h2⟩ => exact ⟨A', c', h1, ho (by decide) h2⟩
    | 2, h => exact h
    | 3, ⟨b3, A', c', h1, h2, h3, h4⟩ =>
      refine ⟨b3, A', c', h1, by rw [hz]; exact h2, ?_, ho (by decide) h4⟩
      rw [hk b3 (fun e => by subst e; rw [hblk] at h3; simp at h3)]
      exact h3
    | 4, ⟨Ao, co, Ap, np, cp, T, U, h1, h2, h3⟩ => exact ⟨Ao, co, Ap, np, cp, T, U, h1, h2, ho (by decide) h3⟩
    | 5, ⟨Ao, co, Ap, np, cp, T, U, h1, h2, h3⟩ => exact ⟨Ao, co, Ap, np, cp, T, U, h1, h2, ho (by decide) h3⟩
    | 6, ⟨Ao, co, Ap, np, cp, T, U, h1, h2, h3⟩ => exact ⟨Ao, co, Ap, np, cp, T, U, h1, h2, ho (by decide) h3⟩
    | 7, h => exact h
    | 8, ⟨b8, x0, x1, h1, h2, h3, h4⟩ =>
      by_cases e : b8 = b
      · subst e
        exact ⟨b8, v0, v1, h1, h2, by rw [hz]; exact h3, hblk'⟩
      · exact ⟨b8, x0, x1, h1, h2, by rw [hz]; exact h3, by rw [hk b8 e]; exact h4⟩
    | 9, h => exact absurd hi hij
    | k + 10, h => trivial
  · rw [if_neg hi] at hs
    match j, h with
    | 0, h => exact h
    | 1, ⟨A', c', h1, h2⟩ => exact ⟨A', c', h1, ownsRow_below h2 hs⟩
    | 2, h => exact h
    | 3, ⟨b, A', c', h1, h2, h3, h4⟩ => exact ⟨b, A', c', h1, Nat.lt_of_lt_of_le h2 hs.size, (hs.block b h2).trans h3, ownsRow_below h4 hs⟩
    | 4, ⟨Ao, co, Ap, np, cp, T, U, h1, h2, h3⟩ => exact ⟨Ao, co, Ap, np, cp, T, U, h1, h2, ownsRow_below h3 hs⟩
    | 5, ⟨Ao, co, Ap, np, cp, T, U, h1, h2, h3⟩ => exact ⟨Ao, co, Ap, np, cp, T, U, h1, h2, ownsRow_below h3 hs⟩
    | 6, ⟨Ao, co, Ap, np, cp, T, U, h1, h2, h3⟩ => exact ⟨Ao, co, Ap, np, cp, T, U, h1, h2, ownsRow_below h3 hs⟩
    | 7, h => exact h
    | 8, ⟨b, u0, u1, h1, h2, h3, h4⟩ => exact ⟨b, u0, u1, h1, h2, Nat.lt_of_lt_of_le h3 hs.size, (hs.block b h3).trans h4⟩
    | 9, ⟨b, Ao, co, Ap, np, cp, T, U, h1, h2, h3, h4, h5⟩ => exact ⟨b, Ao, co, Ap, np, cp, T, U, h1, Nat.lt_of_lt_of_le h2 hs.size, (hs.block b h2).trans h3, h4, ownsRow_below h5 hs⟩
    | k + 10, h => trivial

set_option maxRecDepth 100000 in
set_option maxHeartbeats 4000000 in
theorem l_answer (r : S.BR) (A : Option Addr) (c : Nat) (n v : Int) (w : World) (hR : RAt2 w w.heap.size r A) (hk : AnsOk r) (hL : LVE w) (hn : 0 ≤ n ∧ n ≤ 4294967295)
    (hreal : ∀ (I : S.Img) (i : Nat), I.Ok → S.Seg I r.name i (S.bItems r) → ∀ st : S.Vw, st.reg 4 = n → ∃ d R, d ≤ 1000 ∧ S.Real I r.name r.behind st d R ∧ ∀ ret o k, R ret o k → ∃ st', o = .ret st' ∧ k ≤ 99000 ∧ st'.reg 4 = v ∧ st'.mem = st.mem) :
    Calls Tryz.prog 13 #[rVal r A c, .int .u32 n] w fun e w' => e = .returned (.tuple #[.int .u32 v, .bool true]) ∧ Below w.heap.size w w' := by
  have HB := Lib.hid (fun (W : World) (hb : Below w.heap.size w W) => b_Build r A c W ((hR.below hb).more hb.size) hk.chk hk.sz (hL.on hb) (by have := hk.len; omega))
  have HSt := Lib.hid (fun (W : World) (hb : Below w.heap.size w W) => l_start r A c W ((hR.below hb).more hb.size))
  obtain ⟨M, hM⟩ : ∃ M, M = (S.bItems r).length := ⟨_, rfl⟩
  obtain ⟨X, hX⟩ : ∃ X, X = (S.bItems r).flatMap itemCells := ⟨_, rfl⟩
  obtain ⟨K, hK⟩ : ∃ K, K = (S.sItems r.name r.behind).length := ⟨_, rfl⟩
  obtain ⟨Y, hY⟩ : ∃ Y, Y = (S.sItems r.name r.behind).flatMap itemCells := ⟨_, rfl⟩
  unfold BPost at HB
  rw [← hM, ← hX] at HB
  rw [← hK, ← hY] at HSt
  have HK := Lib.hid hK
  have HY := Lib.hid hY
  have HM := Lib.hid hM
  have HX := Lib.hid hX
  clear hM hX hK hY
  have Hreal := Lib.hid hreal
  have Hk := Lib.hid hk
  have Hn := Lib.hid hn
  clear hreal hk hn hR hL
  obtain ⟨nm, P, L, bh, body⟩ := r
  unfold rVal at HB HSt ⊢
  simp only at HB HSt HK HY ⊢
  obtain ⟨N, hN⟩ : ∃ N, N = body.length := ⟨_, rfl⟩
  rw [← hN] at HB HSt ⊢
  have HN := Lib.hid hN
  clear hN
  have hbX : Below w.heap.size w (w.alloc (.cells #[.string nm, .int .i64 P, .int .i64 L, .bool bh, .slice A N c] 34)) := (Below.refl _ _).alloc (Nat.le_refl _) _
  have hrX := heap_alloc_new w (.cells #[.string nm, .int .i64 P, .int .i64 L, .bool bh, .slice A N c] 34)
  have hzX : w.heap.size < (w.alloc (.cells #[.string nm, .int .i64 P, .int .i64 L, .bool bh, .slice A N c] 34)).heap.size := by simp
  go_enter Tryz.func13, Tryz.ntmps13
  go_upto_region 1 with fail
  generalize w.alloc (.cells #[.string nm, .int .i64 P, .int .i64 L, .bool bh, .slice A N c] 34) = w1 at *
  have HbX := Lib.hid hbX
  have HrX := Lib.hid hrX
  clear hbX hrX
  have k0 : w1.cell? ⟨w.heap.size, 0, none⟩ = some (.string nm) := by rw [Lib.cell_of_heap HrX.out]; rfl
  have k1 : w1.cell? ⟨w.heap.size, 1, none⟩ = some (.int .i64 P) := by rw [Lib.cell_of_heap HrX.out]; rfl
  have k2 : w1.cell? ⟨w.heap.size, 2, none⟩ = some (.int .i64 L) := by rw [Lib.cell_of_heap HrX.out]; rfl
  have k3 : w1.cell? ⟨w.heap.size, 3, none⟩ = some (.bool bh) := by rw [Lib.cell_of_heap HrX.out]; rfl
  have k4 : w1.cell? ⟨w.heap.size, 4, none⟩ = some (.slice A N c) := by rw [Lib.cell_of_heap HrX.out]; rfl
  go_wp2_with fail
  refine (HB.out w1 HbX.out).mono ?_
  rintro e w2 ⟨A2, c2, rfl, ho2, hb2⟩
  have Ho2 := Lib.hid ho2
  have Hb2 := Lib.hid hb2
  clear ho2 hb2 k0 k1 k2 k3 k4
  have hoX := heap_alloc_new w2 (.cells #[.string nm, .slice A2 M c2] 98)
  have hbY := (Below.refl w2.heap.size w2).alloc (Nat.le_refl _) (.cells #[.string nm, .slice A2 M c2] 98)
  have hzY : w2.heap.size < (w2.alloc (.cells #[.string nm, .slice A2 M c2] 98)).heap.size := by simp
  go_upto_region 4 with fail
  generalize w2.alloc (.cells #[.string nm, .slice A2 M c2] 98) = w3 at *
  have HoX := Lib.hid hoX
  have Hb3 := Lib.hid (Hb2.out.trans (hbY.mono Hb2.out.size))
  have Hb03 := Lib.hid (HbX.out.trans (Hb3.out.mono HbX.out.size))
  have Hr3 := Lib.hid ((Hb3.out.block _ hzX).trans HrX.out)
  have Ho3 := Lib.hid (ownsRow_below Ho2.out hbY)
  have hz3 : w.heap.size < w2.heap.size := Nat.lt_of_lt_of_le hzX Hb2.out.size
  have hz03 : w.heap.size < w3.heap.size := by omega
  clear hoX hbY Ho2 Hb2 HB
  have HLk := Lib.hid (fun (W : World) (b : Nat) (A' : Option Addr) (c' : Nat) (hG : Below w3.heap.size w3 W) (hbz : b < W.heap.size) (hblk : W.heap[b]? = some (.cells #[.string S.kStart, .slice A' K c', .string nm, .slice A2 M c2] 98 (0, 0))) (ho : W.ownsRow w3.heap.size 152 8 (.slice A' K c') K Y) =>
    call_link Hk.out HK.out HY.out HM.out HX.out W b A' c' hbz hblk ho (ownsRow_below Ho3.out hG))
  go_cut [8, 9] (fun v8 v9 wc => ∃ b Ao co Ap np cp T U, v8 = .pointer (some ⟨b, 0, none⟩) ∧ v9 = .int .i64 0 ∧ Hid (wc.heap[b]? = some (.cells #[.slice Ao T.length co, .slice Ap np cp] 69 (0, 0))) ∧ Hid (LinkRes (S.ansObjs ⟨nm, P, L, bh, body⟩) 0 0 T U) ∧ Hid (wc.ownsRow w3.heap.size 30 1 (.slice Ao T.length co) T.length (T.map (Value.int .u32))) ∧ Hid (Below w3.heap.size w3 wc))
  case first JJ KK hJJ hKK =>
    refine wp_region_held 10 (ansF nm P L bh body A N c A2 M c2 K Y w3.heap.size) (fun W => Below w3.heap.size w3 W) (ansS w3.heap.size) (fun i => if i = 9 then [8] else [])
      [([], [2]), ([(0, 21)], []), ([], [6]), ([(1, 22), (2, 23)], []), ([(3, 24)], []), ([(4, 25)], []), ([(5, 20)], []), ([(5, 20)], []), ([], []), ([(6, 26), (8, 8)], [])] [(7, 27), (8, 8)] [9] [] (by rfl) (by kernel_rfl) (by kernel_rfl) (by kernel_rfl) (by kernel_rfl) (by kernel_rfl) (by kernel_rfl) (ans_stable nm P L bh body A N c A2 M c2 K Y w3.heap.size) ?_ ?_ ?_
    · exact ⟨rfl, rfl, rfl, Nat.le_refl _, fun _ _ => rfl⟩
    · refine ⟨?_, ?_, ?_, ?_, ?_, ?_, ?_, ?_, ?_, ?_, trivial⟩
      · rintro a W hG - ⟨hO, -⟩
        refine wp_load_row 34 (.tmp 2) rfl w.heap.size (by show a.tmps.getD 2 undef = _; rw [getD_opt]; exact hO) 34 _ (0, 0) _ ((hG.block _ hz03).trans Hr3.out) rfl rfl rfl ⟨_, rfl, rfl, ?_, hG⟩
        exact Below.refl _ _
      · rintro a W hG ⟨hF, -⟩ -
        have e21 : a.eval (.tmp 21) = .agg #[.string nm, .int .i64 P, .int .i64 L, .bool bh, .slice A N c] := by show a.tmps.getD 21 undef = _; rw [getD_opt]; exact hF
        refine wp_callf 44 #[.agg #[.string nm, .int .i64 P, .int .i64 L, .bool bh, .slice A N c]] rfl rfl (by kernel_rfl) (by simp only [List.map_toArray, List.map_cons, List.map_nil, e21]) ?_
        refine (HSt.out W (Hb03.out.trans (hG.mono (Nat.le_of_lt hz03)))).mono ?_
        rintro e w' ⟨A', c', rfl, ho, hb⟩
        exact ⟨_, rfl, _, rfl, ⟨A', c', rfl, ownsRow_less ho hG.size⟩, hb, hG.trans (hb.mono hG.size)⟩
      · rintro a W hG - ⟨hO, -⟩
        refine wp_load_row 98 (.tmp 6) rfl w2.heap.size (by show a.tmps.getD 6 undef = _; rw [getD_opt]; exact hO) 98 _ (0, 0) _ ((hG.block _ hzY).trans HoX.out) rfl rfl rfl ⟨_, rfl, rfl, ?_, hG⟩
        exact Below.refl _ _
      · rintro a W hG ⟨⟨A', c', hv, ho⟩, hF2, -⟩ -
        have e22 : a.eval (.tmp 22) = .agg #[.string S.kStart, .slice A' K c'] := by show a.tmps.getD 22 undef = _; rw [getD_opt]; exact hv
        have e23 : a.eval (.tmp 23) = .agg #[.string nm, .slice A2 M c2] := by show a.tmps.getD 23 undef = _; rw [getD_opt]; exact hF2
        have hb : Below W.heap.size W (W.alloc (.cells #[.string S.kStart, .slice A' K c', .string nm, .slice A2 M c2] 98)) := (Below.refl _ _).alloc (Nat.le_refl _) _
        refine wp_buildSlice 104 98 2 #[(0, .tmp 22), (1, .tmp 23)] rfl #[.string S.kStart, .slice A' K c', .string nm, .slice A2 M c2] _ _ rfl rfl rfl (by decide) (by decide) (by simp only [List.map_toArray, List.map_cons, List.map_nil, e22, e23]; kernel_rfl) ⟨_, rfl, ⟨W.heap.size, A', c', rfl, by show _ < (W.heap.push _).size; simp, heap_alloc_new W _, ownsRow_below ho hb⟩, hb, hG.trans (hb.mono hG.size)⟩
      · rintro a W hG ⟨⟨b, A', c', hv, hbz, hblk, ho⟩, -⟩ -
        have e24 : a.eval (.tmp 24) = .slice (some ⟨b, 0, none⟩) 2 2 := by show a.tmps.getD 24 undef = _; rw [getD_opt]; exact hv
        have e0 : a.eval (.const (.int .i64 0)) = .int .i64 0 := rfl
        refine wp_callf 43 #[.slice (some ⟨b, 0, none⟩) 2 2, .int .i64 0] rfl rfl (by kernel_rfl) (by simp only [List.map_toArray, List.map_cons, List.map_nil, e24, e0]) ?_
        refine (HLk.out W b A' c' hG hbz hblk ho).mono ?_
        rintro e w' ⟨vo, vp, r, T, U, rfl, hres, ho1, ho2, hb⟩
        obtain ⟨rfl, _⟩ := link_ans Hk.out hres
        obtain ⟨Ao, co, rfl⟩ := ownsRow_form ho1
        obtain ⟨Ap, cp, rfl⟩ := ownsRow_form ho2
        exact ⟨_, rfl, _, rfl, ⟨Ao, co, Ap, _, cp, T, U, rfl, hres, ownsRow_less ho1 hG.size⟩, hb, hG.trans (hb.mono hG.size)⟩
      · rintro a W hG ⟨hF, -⟩ -
        have hx : a.tmps.getD 25 undef = a.eval (.tmp 25) := rfl
        have hF : ansF nm P L bh body A N c A2 M c2 K Y w3.heap.size 4 (a.eval (.tmp 25)) [] W := by rw [← hx, getD_opt]; exact hF
        refine wp_value (v := a.eval (.tmp 25)) (w' := W) rfl ⟨_, rfl, hF, ?_, hG⟩
        exact Below.refl _ _
      · rintro a W hG ⟨⟨Ao, co, Ap, np, cp, T, U, hv, hres, ho⟩, -⟩ -
        have e20 : a.eval (.tmp 20) = .tuple #[.agg #[.slice Ao T.length co, .slice Ap np cp], .int .i64 0] := by show a.tmps.getD 20 undef = _; rw [getD_opt]; exact hv
        refine wp_value (v := .agg #[.slice Ao T.length co, .slice Ap np cp]) (w' := W) (by unfold execOp; simp only [e20]; rfl) ⟨_, rfl, ⟨Ao, co, Ap, np, cp, T, U, rfl, hres, ho⟩, ?_, hG⟩
        exact Below.refl _ _
      · rintro a W hG ⟨⟨Ao, co, Ap, np, cp, T, U, hv, hres, ho⟩, -⟩ -
        have e20 : a.eval (.tmp 20) = .tuple #[.agg #[.slice Ao T.length co, .slice Ap np cp], .int .i64 0] := by show a.tmps.getD 20 undef = _; rw [getD_opt]; exact hv
        refine wp_value (v := .int .i64 0) (w' := W) (by unfold execOp; simp only [e20]; rfl) ⟨_, rfl, rfl, ?_, hG⟩
        exact Below.refl _ _
      · rintro a W hG - -
        have hb : Below W.heap.size W (W.alloc (.cells #[.slice none 0 0, .slice none 0 0] 69)) := (Below.refl _ _).alloc (Nat.le_refl _) _
        refine wp_value (v := .pointer (some ⟨W.heap.size, 0, none⟩)) (w' := W.alloc (.cells #[.slice none 0 0, .slice none 0 0] 69)) rfl ⟨_, rfl, ⟨W.heap.size, _, _, rfl, hG.size, by show _ < (W.heap.push _).size; simp, heap_alloc_new W _⟩, hb, hG.trans (hb.mono hG.size)⟩
      · rintro a W hG ⟨⟨Ao, co, Ap, np, cp, T, U, hv, hres, ho⟩, ⟨b, u0, u1, hb8, hB, hbz, hblk⟩, -⟩ -
        have e26 : a.eval (.tmp 26) = .agg #[.slice Ao T.length co, .slice Ap np cp] := by show a.tmps.getD 26 undef = _; rw [getD_opt]; exact hv
        have e8 : a.eval (.tmp 8) = .pointer (some ⟨b, 0, none⟩) := by show a.tmps.getD 8 undef = _; rw [getD_opt]; exact hb8
        have hw : W.setRow b #[.slice Ao T.length co, .slice Ap np cp] = (W.setCell ⟨b, 0, none⟩ (.slice Ao T.length co)).setCell ⟨b, 1, none⟩ (.slice Ap np cp) := by
          exact setRow_two _ _ hblk
        have hself := setRow_heap W b #[u0, u1] #[.slice Ao T.length co, .slice Ap np cp] 69 (0, 0) hblk
        refine wp_store_row 69 (.tmp 8) (.tmp 26) rfl b #[.slice Ao T.length co, .slice Ap np cp] e8 e26 69 _ hblk rfl rfl (by simp [Value.oneCell']) ⟨undef, rfl, ?_, ?_, ?_⟩
        · refine ⟨b, Ao, co, Ap, np, cp, T, U, ?_, by rw [hw]; simpa [World.setCell] using hbz, hself, hres, ?_⟩
          · show [a.tmps.getD 8 undef] = _
            exact congrArg (fun x => [x]) e8
          · have h1 := own_neB ho hblk (by decide)
            rw [hw]
            exact ownsRow_setCell_other (a := ⟨b, 1, none⟩) (ownsRow_setCell_other (a := ⟨b, 0, none⟩) ho h1 _) h1 _
        · show ansS w3.heap.size 9 _ _
          unfold ansS
          rw [if_pos rfl]
          exact ⟨b, u0, u1, _, _, hB, hbz, hblk, hself, hw⟩
        · show Below _ _ _
          rw [hw]
          exact (hG.setCell (p := ⟨b, 0, none⟩) hB _).setCell (p := ⟨b, 1, none⟩) hB _
    · rintro a W hG ⟨h7, h8, -⟩ ⟨h9, -⟩ - hsz hdf hold
      have e27 : a.tmps.getD 27 undef = .int .i64 0 := by rw [getD_opt]; exact h7
      obtain ⟨b, Ao, co, Ap, np, cp, T, U, e8', hbz, hblk, hres, ho⟩ := (h9 : ∃ b Ao co Ap np cp T U, [a.tmps.getD 8 undef] = [.pointer (some ⟨b, 0, none⟩)] ∧ b < W.heap.size ∧ W.heap[b]? = some (.cells #[.slice Ao T.length co, .slice Ap np cp] 69 (0, 0)) ∧ LinkRes (S.ansObjs ⟨nm, P, L, bh, body⟩) 0 0 T U ∧ W.ownsRow w3.heap.size 30 1 (.slice Ao T.length co) T.length (T.map (Value.int .u32)))
      have e8 : a.tmps.getD 8 undef = .pointer (some ⟨b, 0, none⟩) := (List.cons.inj e8').1
      clear e8'
      rw [act_puts (slots := 56) [8, 9, 20, 21, 22, 23, 24, 25, 26, 27] (by rfl) hsz hdf hold (by kernel_rfl) (by decide) (by decide)]
      unfold putAll
      simp only [List.foldl]
      rw [e27, e8]
      clear e27 e8 hsz hdf hold h7 h8
      generalize a.tmps.getD 9 undef = u9
      generalize a.tmps.getD 20 undef = u20
      generalize a.tmps.getD 21 undef = u21
      generalize a.tmps.getD 22 undef = u22
      generalize a.tmps.getD 23 undef = u23
      generalize a.tmps.getD 24 undef = u24
      generalize a.tmps.getD 25 undef = u25
      generalize a.tmps.getD 26 undef = u26
      clear a
      have Hblk := Lib.hid hblk
      have Hres := Lib.hid hres
      have Ho := Lib.hid ho
      have HG := Lib.hid hG
      clear hblk hres ho hG
      show wpAny _ _ _ _ 1 _ _ _
      (refine wpAny_ready (rs := [10]) (by kernel_rfl) (by simp) ?_; refine AllReady.cons rfl (fun K hK => ?_) AllReady.nil; go_simp; refine hK _ _ ?_; clear hK K)
      refine wpAny_done (by kernel_rfl) ?_ _
      refine hKK _ _ (Met.intro (hJJ _ _ ?_))
      (repeat apply Exists.intro)
      refine ⟨?rel, rfl⟩
      exact ⟨b, Ao, co, Ap, np, cp, T, U, rfl, rfl, Hblk, Hres, Ho, HG⟩
  case rest =>
    obtain ⟨b, Ao, co, Ap, np, cp, T, U, rfl, rfl, Hblk, Hres, Ho, HG⟩ := hcut
    obtain ⟨-, ht, hw, hst, h28, h4⟩ := ans_all Hk.out Hres.out Hn.out Hreal.out
    have HS1' := Lib.hid hst
    have HS2 := Lib.hid h28
    have HS3 := Lib.hid h4
    have HNew := Lib.hid (mach_New Ao none co 0 T [] 4000 wc (Reads.of_own Ho.out) (fun h => by simp at h) (by omega) (by simp) hw (fun x hx => by cases hx))
    have HMm := Lib.hid (show ((newM T (Int.toNat 4000) []).setV 28 3000).setV 4 n = S.ansMach T n from rfl)
    have HBw := Lib.hid (Hb03.out.trans (HG.out.mono (Nat.le_of_lt hz03)))
    obtain ⟨Nt, hNt⟩ : ∃ Nt, Nt = T.length := ⟨_, rfl⟩
    rw [← hNt] at Hblk HNew
    have Hsz := Lib.hid (show sizeOk Nt 4000 from ⟨by omega, by omega, by omega⟩)
    clear ht hw hst h28 h4 HLk HSt Hreal Ho3 Hb3 HoX Hr3
    have d0 : wc.cell? ⟨b, 0, none⟩ = some (.slice Ao Nt co) := by rw [Lib.cell_of_heap Hblk.out]; rfl
    clear hNt
    go_wp2_with fail
    refine HNew.out.mono ?_
    rintro e w4 (⟨hno, -⟩ | ⟨-, p, vm, Ai, ci, rfl, hm, hb4, -⟩)
    · exact absurd Hsz.out hno
    have HM4 := Lib.hid hm
    have Hb4 := Lib.hid hb4
    have HB4 := Lib.hid (HBw.out.trans (hb4.mono HBw.out.size))
    have HS1 := Lib.hid (mach_Set 28 3000 hm (by decide))
    clear hm hb4
    go_wp2_with fail
    refine HS1.out.mono ?_
    rintro e w5 ⟨rfl, hm5, ho5⟩
    have HM5 := Lib.hid hm5
    have Ho5 := Lib.hid ho5
    clear hm5 ho5
    go_wp2_with fail
    refine (mach_Set 4 n HM5.out Hn.out).mono ?_
    rintro e w6 ⟨rfl, hm6, ho6⟩
    rw [HMm.out] at hm6
    have HM6 := Lib.hid hm6
    have Ho6 := Lib.hid ho6
    clear hm6 ho6
    go_wp2_with fail
    obtain ⟨mz, hmz⟩ : ∃ mz, mz = (S.ansMach T n).steps_ 100000 := ⟨_, rfl⟩
    rw [← hmz] at HS1' HS2 HS3
    have hos : (S.ansMach T n).out = [] ∧ (S.ansMach T n).steps = 0 := by
      unfold S.ansMach S.Mach.put
      rw [if_neg (by decide), if_neg (by decide)]
      exact ⟨rfl, rfl⟩
    have hrun := mach_Run 100000 HM6.out (by rw [hos.1]; decide) (by rw [hos.2]; decide) (by decide)
    clear hos
    have e1 : (S.ansMach T n).steps_ (Int.toNat 100000) = mz := hmz.symm
    rw [e1, HS1'.out] at hrun
    have Hrun := Lib.hid hrun
    clear hrun e1 hmz
    go_wp2_with fail
    refine Hrun.out.mono ?_
    rintro e w7 ⟨rfl, vo', rd', hm7, ho7, hv7⟩
    have HM7 := Lib.hid hm7
    have Ho7 := Lib.hid ho7
    have HR1 := Lib.hid (show mz.regV 28 = 3000 by rw [← HS2.out]; unfold S.Mach.regV; rw [if_pos (by decide)]; rfl)
    have HR2 := Lib.hid (show mz.regV 4 = v by rw [← HS3.out]; unfold S.Mach.regV; rw [if_pos (by decide)]; rfl)
    clear hm7 ho7 hv7
    go_wp2_with fail
    have hr := mach_Reg 28 HM7.out
    rw [HR1.out] at hr
    have Hr := Lib.hid hr
    clear hr
    refine Hr.out.mono ?_
    rintro e w8 ⟨rfl, rfl⟩
    go_wp2_with fail
    have hr := mach_Reg 4 HM7.out
    rw [HR2.out] at hr
    have Hr2 := Lib.hid hr
    clear hr
    refine Hr2.out.mono ?_
    rintro e w8 ⟨rfl, rfl⟩
    go_wp2_with fail
    have hwc : w.heap.size ≤ wc.heap.size := HBw.out.size
    have hlow := HM7.out.low
    refine bodyPost_ret (v := .tuple #[.int .u32 v, .bool true]) (results_tmp2 Tryz.results13 _ _ _) rfl ⟨rfl, ?_⟩
    refine ((HB4.out.trans (Ho5.out.below HB4.out.size (fun k hk => by subst hk; omega))).trans (Ho6.out.below ?_ (fun k hk => by subst hk; omega))).trans (Ho7.out.below ?_ (fun k hk => Nat.le_trans hwc (HM6.out.foot_lt hk).1))
    · exact Nat.le_trans HB4.out.size Ho5.out.size
    · exact Nat.le_trans (Nat.le_trans HB4.out.size Ho5.out.size) Ho6.out.size

end Go.Proofs.YtlldagdhlfpihaaGreatDoor
