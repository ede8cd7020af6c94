/- What a text is as an instruction in the document: walk of pennantref01.Parse. -/
import Derived.Test.YtjhchgbeglhoaaaDoorIWds
set_option linter.unusedVariables false
set_option linter.unusedSimpArgs false
set_option linter.unusedSectionVars false
namespace Go.Proofs.YtjhchgbeglhoaaaDoor
open Go.RowKit

theorem parse_long {fr fi : List UInt8 → Int} (s : List UInt8) (h : 60 < s.length) : S.parse fr fi s = (⟨0, 0, 0, 0, 0⟩, 11) := by
  rcases parse_ways fr fi s 36 1 with e | ⟨x, hx, e, _⟩
  · exact e
  · have := text_short hx
    rw [e] at this
    omega
theorem parse_next_name {fr fi : List UInt8 → Int} {s : List UInt8} {ws : List (List UInt8)} {k : Nat} {op : Int} (h : S.nameL op ≠ ws.headD []) : S.parseFrom fr fi s ws (k + 1) op = S.parseFrom fr fi s ws k (op + 1) := by
  show (if S.nameL op = ws.headD [] then _ else _) = _
  rw [if_neg h]
theorem parse_next_text {fr fi : List UInt8 → Int} {s : List UInt8} {ws : List (List UInt8)} {k : Nat} {op : Int} (h : S.text (S.cand fr fi op ws.tail) ≠ s) : S.parseFrom fr fi s ws (k + 1) op = S.parseFrom fr fi s ws k (op + 1) := by
  show (if S.nameL op = ws.headD [] then (if S.text (S.cand fr fi op ws.tail) = s then _ else _) else _) = _
  rw [if_neg h]
  split <;> rfl
theorem parse_here {fr fi : List UInt8 → Int} {s : List UInt8} {ws : List (List UInt8)} {k : Nat} {op : Int} (h : S.nameL op = ws.headD []) (h2 : S.text (S.cand fr fi op ws.tail) = s) : S.parseFrom fr fi s ws (k + 1) op = (S.cand fr fi op ws.tail, 0) := by
  show (if S.nameL op = ws.headD [] then (if S.text (S.cand fr fi op ws.tail) = s then _ else _) else _) = _
  rw [if_pos h, if_pos h2]

theorem take_no (f : List UInt8 → Int) (l : List (List UInt8)) : S.takeN false f l = (0, l) := rfl
theorem take_none (f : List UInt8 → Int) (ws : List (List UInt8)) (k : Nat) (h : ¬ k < ws.length) : S.takeN true f (ws.drop k) = (0, ws.drop k) := by
  rw [List.drop_of_length_le (by omega)]
  rfl
theorem take_one (f : List UInt8 → Int) (ws : List (List UInt8)) (k : Nat) (h : k < ws.length) : S.takeN true f (ws.drop k) = (f (ws.getD k []), ws.drop (k + 1)) := by
  rw [List.drop_eq_getElem_cons h]
  simp [S.takeN, h]

theorem cand_of {f : List UInt8 → Int} {op x0 x1 x2 x3 : Int} {ws : List (List UInt8)} {k0 k1 k2 k3 : Nat} {B0 B1 B2 B3 : Bool} (h : ws.tail = ws.drop k0)
    (h0 : B0 = S.hasD (S.form op)) (t0 : S.takeN B0 f (ws.drop k0) = (x0, ws.drop k1)) (h1 : B1 = S.hasA (S.form op)) (t1 : S.takeN B1 f (ws.drop k1) = (x1, ws.drop k2))
    (h2 : B2 = S.hasB (S.form op)) (t2 : S.takeN B2 f (ws.drop k2) = (x2, ws.drop k3)) (h3 : B3 = decide (0 < S.bitsOf (S.form op))) (t3 : (S.takeN B3 f (ws.drop k3)).1 = x3) :
    S.cand f f op ws.tail = ⟨op, x0, x1, x2, x3⟩ := by
  unfold S.cand
  simp only [h, ← h0, ← h1, ← h2, ← h3, t0, t1, t2, t3]
theorem take_off {f : List UInt8 → Int} {ws : List (List UInt8)} {k : Nat} {B : Bool} (h : false = (B && decide ((k : Int) < ws.length))) : S.takeN B f (ws.drop k) = (0, ws.drop k) := by
  cases B with
  | false => rfl
  | true =>
    have : ¬ (k : Int) < ws.length := by simpa using h
    exact take_none f ws k (by omega)
theorem take_on {f : List UInt8 → Int} {ws : List (List UInt8)} {k : Nat} {B : Bool} (h : true = (B && decide ((k : Int) < ws.length))) : k < ws.length ∧ S.takeN B f (ws.drop k) = (f (ws.getD k []), ws.drop (k + 1)) := by
  cases B with
  | false => simp at h
  | true =>
    have : (k : Int) < ws.length := by simpa using h
    exact ⟨by omega, take_one f ws k (by omega)⟩

/-- A text's words at a block of their own, below what is written. -/
def WordsIn (g : Nat) (ws : List (List UInt8)) (w : World) : Prop := ∀ j, j < ws.length → w.cell? ⟨g, j, none⟩ = some (.string ⟨(ws.getD j []).toArray⟩)
theorem WordsIn.keep {g : Nat} {ws : List (List UInt8)} {w w' : World} {B : Nat} (h : WordsIn g ws w) (hb : Below B w w') (hg : g < B) : WordsIn g ws w' :=
  fun j hj => (hb.cell (p := ⟨g, j, none⟩) hg).trans (h j hj)
theorem StrsAt.words {base : Nat} {ws : List (List UInt8)} {v : Value} {w : World} (h : StrsAt base ws v w) (h0 : 0 < ws.length) : ∃ g c, v = .slice (some ⟨g, 0, none⟩) ws.length c ∧ base ≤ g ∧ g < w.heap.size ∧ WordsIn g ws w := by
  obtain ⟨A, c, rfl, hown⟩ := h
  obtain ⟨g, rfl, h1, h2, h3, h4, _⟩ := ownsRow_at hown h0
  refine ⟨g, c, rfl, h1, h2, fun j hj => ?_⟩
  rw [h4 j (by omega)]
  simp [strsV, hj]

/-- An instruction in a block. -/
def InstAt (g : Nat) (x : S.Inst) (w : World) : Prop := w.heap[g]? = some (.cells #[.int .i64 x.op, .int .i64 x.d, .int .i64 x.a, .int .i64 x.b, .int .i64 x.imm] 27 (0, 0))
theorem InstAt.cell {g : Nat} {x : S.Inst} {w : World} (h : InstAt g x w) (i : Nat) : w.cell? ⟨g, i, none⟩ = (#[Value.int .i64 x.op, .int .i64 x.d, .int .i64 x.a, .int .i64 x.b, .int .i64 x.imm])[i]? := cell_of_row w g i _ _ (0, 0) h
theorem InstAt.frozen {g : Nat} {x : S.Inst} {w : World} (h : InstAt g x w) (i : Nat) : w.frozen? ⟨g, i, none⟩ = false := by
  unfold InstAt at h
  simp [World.frozen?, h]
theorem InstAt.lt {g : Nat} {x : S.Inst} {w : World} (h : InstAt g x w) : g < w.heap.size := by
  rcases Nat.lt_or_ge g w.heap.size with h' | h'
  · exact h'
  · unfold InstAt at h; simp [Array.getElem?_eq_none h'] at h
theorem InstAt.keep {g : Nat} {x : S.Inst} {w w' : World} (h : InstAt g x w) (hb : Below w.heap.size w w') : InstAt g x w' := (hb.block g h.lt).trans h
theorem instAt_set {g j : Nat} {cs : Array Value} {t : TypeId} {w : World} (h : w.heap[g]? = some (.cells cs t (0, 0))) (v : Value) : (w.setCell ⟨g, j, none⟩ v).heap[g]? = some (.cells (cs.setIfInBounds j v) t (0, 0)) := by
  rw [setCell_eq_setRow w g j cs t (0, 0) v h]
  exact setRow_heap w g _ _ t _ h
theorem setCell_sz (w : World) (p : Addr) (v : Value) : (w.setCell p v).heap.size = w.heap.size := by simp [World.setCell]
theorem InstAt.put1 {g : Nat} {op d a b i v : Int} {w : World} (h : InstAt g ⟨op, d, a, b, i⟩ w) : InstAt g ⟨op, v, a, b, i⟩ (w.setCell ⟨g, 1, none⟩ (.int .i64 v)) := instAt_set h _
theorem InstAt.put2 {g : Nat} {op d a b i v : Int} {w : World} (h : InstAt g ⟨op, d, a, b, i⟩ w) : InstAt g ⟨op, d, v, b, i⟩ (w.setCell ⟨g, 2, none⟩ (.int .i64 v)) := instAt_set h _
theorem InstAt.put3 {g : Nat} {op d a b i v : Int} {w : World} (h : InstAt g ⟨op, d, a, b, i⟩ w) : InstAt g ⟨op, d, a, v, i⟩ (w.setCell ⟨g, 3, none⟩ (.int .i64 v)) := instAt_set h _
theorem InstAt.put4 {g : Nat} {op d a b i v : Int} {w : World} (h : InstAt g ⟨op, d, a, b, i⟩ w) : InstAt g ⟨op, d, a, b, v⟩ (w.setCell ⟨g, 4, none⟩ (.int .i64 v)) := instAt_set h _
def instV (x : S.Inst) : Value := .agg #[.int .i64 x.op, .int .i64 x.d, .int .i64 x.a, .int .i64 x.b, .int .i64 x.imm]

theorem below5 {w w' : World} {k : Nat} (h : Below w.heap.size w w') (hk : w.heap.size ≤ k) (v0 v1 v2 v3 v4 : Value) :
    Below w.heap.size w (((((w'.setCell ⟨k, 0, none⟩ v0).setCell ⟨k, 1, none⟩ v1).setCell ⟨k, 2, none⟩ v2).setCell ⟨k, 3, none⟩ v3).setCell ⟨k, 4, none⟩ v4) :=
  ((((h.setCell (p := ⟨k, 0, none⟩) hk v0).setCell (p := ⟨k, 1, none⟩) hk v1).setCell (p := ⟨k, 2, none⟩) hk v2).setCell (p := ⟨k, 3, none⟩) hk v3).setCell (p := ⟨k, 4, none⟩) hk v4
theorem instFive {g : Nat} {x : S.Inst} {w : World} (h : InstAt g x w) (op d a b i : Int) : InstAt g ⟨op, d, a, b, i⟩ (((((w.setCell ⟨g, 0, none⟩ (.int .i64 op)).setCell ⟨g, 1, none⟩ (.int .i64 d)).setCell ⟨g, 2, none⟩ (.int .i64 a)).setCell ⟨g, 3, none⟩ (.int .i64 b)).setCell ⟨g, 4, none⟩ (.int .i64 i)) :=
  instAt_set (instAt_set (instAt_set (instAt_set (instAt_set h _) _) _) _) _
theorem res_inst {fn : Func} {post : Ending → World → Prop} {g : Nat} {x : S.Inst} {k : Int} {a : Act} {w : World} (hres : fn.results = #[.cell 2 27, .tmp 3]) (h2 : a.tmps.getD 2 undef = .pointer (some ⟨g, 0, none⟩)) (h3 : a.tmps.getD 3 undef = .int .i64 k)
    (hd : a.defers = []) (hI : InstAt g x w) (h : post (.returned (.tuple #[instV x, .int .i64 k])) w) : bodyPost Tryd.prog fn post Exit.ret a w := by
  obtain ⟨tmps, defers⟩ := a
  subst hd
  have hc := fun i => hI.cell i
  simp at h2 h3
  refine bodyPost_ret (v := .tuple #[instV x, .int .i64 k]) ?_ rfl h
  simp [results, hres, h2, h3, go_sem, hc, instV]
theorem words_short : ∀ (s : List UInt8) (j : Nat), ((S.words s).getD j []).length ≤ s.length
  | [], j => by
    rcases j with _ | j <;> simp [S.words]
  | c :: r, j => by
    have hne := words_ne r
    have ih := words_short r
    simp only [S.words]
    split
    · rcases j with _ | j
      · simp
      · have := ih j
        simp only [List.getD_cons_succ, List.length_cons]
        omega
    · cases hw : S.words r with
      | nil => exact absurd hw hne
      | cons a t =>
        rw [hw] at ih
        rcases j with _ | j
        · have := ih 0
          simp only [List.getD_cons_zero, List.length_cons] at this ⊢
          omega
        · have := ih (j + 1)
          simp only [List.getD_cons_succ, List.length_cons] at this ⊢
          omega
theorem words_count : ∀ (s : List UInt8), (S.words s).length ≤ s.length + 1
  | [] => by simp [S.words]
  | c :: r => by
    have hne := words_ne r
    have ih := words_count r
    simp only [S.words]
    split
    · simp; omega
    · cases hw : S.words r with
      | nil => exact absurd hw hne
      | cons a t =>
        rw [hw] at ih
        simp only [List.length_cons] at ih ⊢
        omega

set_option maxRecDepth 100000 in
set_option maxHeartbeats 4000000 in
theorem ref_Parse (s : ByteArray) (hs : s.size ≤ 1000) (w : World) : Calls Tryd.prog 26 #[.string s] w fun e w' => e = .returned (.tuple #[instV (S.parse S.refNum S.refNum s.data.toList).1, .int .i64 (S.parse S.refNum S.refNum s.data.toList).2]) ∧ Below w.heap.size w w' := by
  obtain ⟨l, hl⟩ : ∃ l, l = s.data.toList := ⟨_, rfl⟩
  have hll : l.length = s.size := by rw [hl]; simp
  have Hl := Lib.hid hl
  rw [← hl]
  obtain ⟨PP, hPP⟩ : ∃ PP, PP = S.parse S.refNum S.refNum l := ⟨_, rfl⟩
  rw [← hPP]
  have HPP := Lib.hid hPP
  clear hPP hl
  go_enter Tryd.func26, Tryd.ntmps26
  go_upto_region 1 with fail
  obtain ⟨x1, x2, x3⟩ := one_allocN w #[.int .i64 0, .int .i64 0, .int .i64 0, .int .i64 0, .int .i64 0] 27
  have i0 : InstAt w.heap.size ⟨0, 0, 0, 0, 0⟩ (w.alloc (.cells #[.int .i64 0, .int .i64 0, .int .i64 0, .int .i64 0, .int .i64 0] 27)) := x1
  generalize w.alloc (.cells #[.int .i64 0, .int .i64 0, .int .i64 0, .int .i64 0, .int .i64 0] 27) = wb at *
  clear x1
  by_cases h60 : (60 : Int) < s.size
  · have Hp := Lib.hid (HPP.out.trans (parse_long (fr := S.refNum) (fi := S.refNum) l (by omega)))
    have hc := fun i => i0.cell i
    have f0 := i0.frozen 0
    have f1 := i0.frozen 1
    have f2 := i0.frozen 2
    have f3 := i0.frozen 3
    have f4 := i0.frozen 4
    go_wp2_with fail
    refine res_inst rfl rfl rfl rfl (instFive i0 0 0 0 0 0) ⟨by rw [Hp.out], below5 x2 (Nat.le_refl _) _ _ _ _ _⟩
  · have hs60 : s.size ≤ 60 := by omega
    go_wp2_with fail
    refine (ref_Words s hs wb).mono ?_
    rintro e w1 ⟨v, rfl, hws, hb1⟩
    rw [← Hl.out] at hws
    have hwne := words_ne l
    have hwl := words_count l
    have hwsh := words_short l
    obtain ⟨ws, hwd⟩ : ∃ ws, ws = S.words l := ⟨_, rfl⟩
    have Hp : Hid (PP = S.parseFrom S.refNum S.refNum l ws 36 1) := Lib.hid (by rw [HPP.out, hwd]; rfl)
    rw [← hwd] at hws hwne hwl hwsh
    clear hwd
    have hw0 : 0 < ws.length := List.length_pos_iff.2 hwne
    obtain ⟨g, c, rfl, hg1, hg2, hW⟩ := hws.words hw0
    have hgI := i0.keep hb1
    have Hb1 := Lib.hid (x2.trans (hb1.mono (by omega)))
    have hz1 : w.heap.size < w1.heap.size := Nat.lt_of_lt_of_le i0.lt hb1.size
    clear hws i0 hb1 x2 x3 hwne hg1
    have Hsh := Lib.hid hwsh
    clear hwsh
    go_wp2_with fail
    go_loopw [5, 6, 7] (fun v5 v6 v7 wr => ∃ k : Nat, k ≤ 36 ∧ v5 = .int .i64 ((37 : Int) - k) ∧ PP = S.parseFrom S.refNum S.refNum l ws k (37 - k) ∧ Below w1.heap.size w1 wr) (fun v5 _ _ _ => (37 - intOf v5).toNat)
    case atStart => exact ⟨36, by omega, rfl, Hp.out, Below.refl _ _⟩
    case round =>
      obtain ⟨k, hk, rfl, hPP, hbr⟩ := hrel
      have HP := Lib.hid hPP
      clear hPP
      by_cases hk0 : k = 0
      · have Hf : Hid (PP = (⟨0, 0, 0, 0, 0⟩, 11)) := Lib.hid (by rw [HP.out, hk0]; rfl)
        have hI : InstAt w.heap.size ⟨0, 0, 0, 0, 0⟩ wr := (hbr.block w.heap.size hz1).trans hgI
        have hlt := hbr.size
        have f0 := InstAt.frozen hI 0
        have f1 := InstAt.frozen hI 1
        have f2 := InstAt.frozen hI 2
        have f3 := InstAt.frozen hI 3
        have f4 := InstAt.frozen hI 4
        have hc := fun i => InstAt.cell hI i
        have hle : decide ((37 : Int) - k ≤ 36) = false := by simp [hk0]
        go_wp2_with fail
        refine res_inst rfl rfl rfl rfl (instFive hI 0 0 0 0 0) ⟨by rw [Hf.out], below5 (Hb1.out.trans (hbr.mono (Nat.le_of_lt hz1))) (Nat.le_refl _) _ _ _ _ _⟩
      · obtain ⟨k, rfl⟩ : ∃ j, k = j + 1 := ⟨k - 1, by omega⟩
        have hop : ∃ op : Int, op = 36 - k := ⟨_, rfl⟩
        obtain ⟨op, hop⟩ := hop
        rw [show ((37 : Int) - ((k + 1 : Nat) : Int)) = op by rw [hop]; push_cast; omega] at HP ⊢
        have ho1 : 1 ≤ op := by omega
        have ho2 : op ≤ 36 := by omega
        have hWr := hW.keep hbr hg2
        have HOP := Lib.hid hop
        clear hop
        have c0 := hWr 0 hw0
        obtain ⟨u, hu⟩ : ∃ u, u = ws.getD 0 [] := ⟨_, rfl⟩
        have hus : u.length ≤ l.length := by rw [hu]; exact Hsh.out 0
        rw [← hu] at c0
        have Hu : Hid (ws.headD [] = u) := Lib.hid (by rw [hu]; cases ws <;> rfl)
        clear hu
        go_upto_region 7 with fail
        go_cut [23] (fun v wc => v = .bool (!(S.nameL op == u)) ∧ Below wr.heap.size wr wc)
        case first =>
          go_region_with (go_at_call 14; refine (ref_Name op _).mono ?_; rintro e w' ⟨rfl, rfl⟩)
          all_goals
            simp only [List.getElem_toArray, List.getElem_cons_succ, List.getElem_cons_zero, Act.put, List.setIfInBounds_toArray, List.set_cons_succ, List.set_cons_zero]
            go_wp2_with fail
            go_meet
            first | exact ⟨rfl, Below.drew (Below.refl _ _)⟩ | exact ⟨rfl, Below.refl _ _⟩
        case rest =>
          obtain ⟨rfl, hbc⟩ := hcut
          have hbw := hbr.trans (hbc.mono hbr.size)
          clear hbc c0 hWr
          have HBW := Lib.hid hbw
          have hzw := hbw.size
          by_cases hnm : S.nameL op = u
          · have d0 : (!(S.nameL op == u)) = false := by simp [hnm]
            have Hnm := Lib.hid (hnm.trans Hu.out.symm)
            rw [d0]
            clear d0 hnm
            go_upto_region 9 with fail
            obtain ⟨y1, y2, y3⟩ := one_allocN wc #[.int .i64 op, .int .i64 0, .int .i64 0, .int .i64 0, .int .i64 0] 27
            have hI : InstAt wc.heap.size ⟨op, 0, 0, 0, 0⟩ (wc.alloc (.cells #[.int .i64 op, .int .i64 0, .int .i64 0, .int .i64 0, .int .i64 0] 27)) := y1
            have hbx := hbw.trans (y2.mono hzw)
            obtain ⟨gx, hgx⟩ : ∃ gx, gx = wc.heap.size := ⟨_, rfl⟩
            have hgx1 : w1.heap.size ≤ gx := by rw [hgx]; exact hzw
            rw [← hgx] at hI ⊢
            generalize wc.alloc (.cells #[.int .i64 op, .int .i64 0, .int .i64 0, .int .i64 0, .int .i64 0] 27) = wy at *
            clear y1 y2 y3 hbw hgx hzw HBW
            have HBX := Lib.hid hbx
            have HI := Lib.hid hI
            clear hbx hI
            go_cut [7] (fun v wq => ∃ k0 : Nat, v = .int .i64 k0 ∧ k0 = 1 ∧ wy = wq)
            case first =>
              go_wp2_with fail
              go_meet
              case rel => exact ⟨1, rfl, rfl, rfl⟩
            case rest =>
              obtain ⟨k0, rfl, hk01, rfl⟩ := hcut
              have Hk0 := Lib.hid hk01
              have hk0l : k0 ≤ ws.length := by omega
              have Hr0 := Lib.hid (show ws.tail = ws.drop k0 by rw [hk01]; simp)
              clear hk01
              obtain ⟨B0, hB0⟩ : ∃ B, B = S.hasD (S.form op) := ⟨_, rfl⟩
              have HB0 := Lib.hid hB0
              go_upto_region 10 with fail
              go_cut [33] (fun v wq => v = .bool (B0 && decide ((k0 : Int) < ws.length)) ∧ wy = wq)
              case first =>
                go_wp2_with fail
                refine (ref_HasD op wy).mono ?_
                rintro e wq ⟨rfl, rfl⟩
                rw [← hB0]
                clear hB0
                cases B0 with
                | false =>
                  go_wp2_with fail
                  go_meet
                  case rel => exact ⟨by simp, rfl⟩
                | true =>
                  go_wp2_with fail
                  go_meet
                  case rel => exact ⟨by simp, rfl⟩
              case rest =>
                obtain ⟨rfl, rfl⟩ := hcut
                clear hB0
                obtain ⟨C0, hC0⟩ : ∃ C, C = (B0 && decide ((k0 : Int) < ws.length)) := ⟨_, rfl⟩
                rw [← hC0]
                have HC0 := Lib.hid hC0
                clear hC0
                go_upto_if 33 with fail
                go_cut [7] (fun v wq => ∃ (k' : Nat) (x' : Int), v = .int .i64 k' ∧ S.takeN B0 S.refNum (ws.drop k0) = (x', ws.drop k') ∧ k' ≤ ws.length ∧ InstAt gx ⟨op, x', 0, 0, 0⟩ wq ∧ Below w1.heap.size w1 wq)
                case first =>
                  have hI := HI.out
                  have hc := hI.cell 1
                  have hf := hI.frozen 1
                  cases C0 with
                  | false =>
                    have Ht : Hid (S.takeN B0 S.refNum (ws.drop k0) = (0, ws.drop k0)) := Lib.hid (take_off HC0.out)
                    go_wp2_with fail
                    go_meet
                    case rel => exact ⟨k0, 0, rfl, Ht.out, hk0l, hI, HBX.out⟩
                  | true =>
                    obtain ⟨hlt, ht⟩ := take_on (f := S.refNum) HC0.out
                    have Ht := Lib.hid ht
                    have hcw := (hW.keep HBX.out hg2) k0 hlt
                    have hus := Hsh.out k0
                    clear ht
                    generalize ws.getD k0 [] = uu at *
                    go_wp2_with fail
                    refine (ref_Number ⟨uu.toArray⟩ (by show uu.length ≤ _; omega) _).mono ?_
                    rintro e wq ⟨rfl, rfl⟩
                    rw [show ByteArray.data ⟨uu.toArray⟩ = uu.toArray from rfl, List.toList_toArray]
                    generalize S.refNum uu = N at *
                    go_wp2_with fail
                    go_meet
                    case rel => exact ⟨k0 + 1, N, by go_num, Ht.out, by omega, hI.put1, HBX.out.setCell hgx1 _⟩
                case rest =>
                  obtain ⟨k1, x0, rfl, ht0, hk1l, hI0, hB0⟩ := hcut
                  have Ht0 := Lib.hid ht0
                  have HI0 := Lib.hid hI0
                  have HW0 := Lib.hid hB0
                  clear HI HBX ht0 hI0 hB0
                  generalize wc = wz0 at *
                  obtain ⟨B1, hB1⟩ : ∃ B, B = S.hasA (S.form op) := ⟨_, rfl⟩
                  have HB1 := Lib.hid hB1
                  go_upto_region 13 with fail
                  go_cut [49] (fun v wq => v = .bool (B1 && decide ((k1 : Int) < ws.length)) ∧ wz0 = wq)
                  case first =>
                    go_wp2_with fail
                    refine (ref_HasA op wz0).mono ?_
                    rintro e wq ⟨rfl, rfl⟩
                    rw [← hB1]
                    clear hB1
                    cases B1 with
                    | false =>
                      go_wp2_with fail
                      go_meet
                      case rel => exact ⟨by simp, rfl⟩
                    | true =>
                      go_wp2_with fail
                      go_meet
                      case rel => exact ⟨by simp, rfl⟩
                  case rest =>
                    obtain ⟨rfl, rfl⟩ := hcut
                    clear hB1
                    obtain ⟨C1, hC1⟩ : ∃ C, C = (B1 && decide ((k1 : Int) < ws.length)) := ⟨_, rfl⟩
                    rw [← hC1]
                    have HC1 := Lib.hid hC1
                    clear hC1
                    go_upto_if 49 with fail
                    go_cut [7] (fun v wq => ∃ (k' : Nat) (x' : Int), v = .int .i64 k' ∧ S.takeN B1 S.refNum (ws.drop k1) = (x', ws.drop k') ∧ k' ≤ ws.length ∧ InstAt gx ⟨op, x0, x', 0, 0⟩ wq ∧ Below w1.heap.size w1 wq)
                    case first =>
                      have hI := HI0.out
                      have hc := hI.cell 2
                      have hf := hI.frozen 2
                      cases C1 with
                      | false =>
                        have Ht : Hid (S.takeN B1 S.refNum (ws.drop k1) = (0, ws.drop k1)) := Lib.hid (take_off HC1.out)
                        go_wp2_with fail
                        go_meet
                        case rel => exact ⟨k1, 0, rfl, Ht.out, hk1l, hI, HW0.out⟩
                      | true =>
                        obtain ⟨hlt, ht⟩ := take_on (f := S.refNum) HC1.out
                        have Ht := Lib.hid ht
                        have hcw := (hW.keep HW0.out hg2) k1 hlt
                        have hus := Hsh.out k1
                        clear ht
                        generalize ws.getD k1 [] = uu at *
                        go_wp2_with fail
                        refine (ref_Number ⟨uu.toArray⟩ (by show uu.length ≤ _; omega) _).mono ?_
                        rintro e wq ⟨rfl, rfl⟩
                        rw [show ByteArray.data ⟨uu.toArray⟩ = uu.toArray from rfl, List.toList_toArray]
                        generalize S.refNum uu = N at *
                        go_wp2_with fail
                        go_meet
                        case rel => exact ⟨k1 + 1, N, by go_num, Ht.out, by omega, hI.put2, HW0.out.setCell hgx1 _⟩
                    case rest =>
                      obtain ⟨k2, x1, rfl, ht1, hk2l, hI1, hB1⟩ := hcut
                      have Ht1 := Lib.hid ht1
                      have HI1 := Lib.hid hI1
                      have HW1 := Lib.hid hB1
                      clear HI0 HW0 ht1 hI1 hB1
                      generalize wc = wz1 at *
                      obtain ⟨B2, hB2⟩ : ∃ B, B = S.hasB (S.form op) := ⟨_, rfl⟩
                      have HB2 := Lib.hid hB2
                      go_upto_region 16 with fail
                      go_cut [65] (fun v wq => v = .bool (B2 && decide ((k2 : Int) < ws.length)) ∧ wz1 = wq)
                      case first =>
                        go_wp2_with fail
                        refine (ref_HasB op wz1).mono ?_
                        rintro e wq ⟨rfl, rfl⟩
                        rw [← hB2]
                        clear hB2
                        cases B2 with
                        | false =>
                          go_wp2_with fail
                          go_meet
                          case rel => exact ⟨by simp, rfl⟩
                        | true =>
                          go_wp2_with fail
                          go_meet
                          case rel => exact ⟨by simp, rfl⟩
                      case rest =>
                        obtain ⟨rfl, rfl⟩ := hcut
                        clear hB2
                        obtain ⟨C2, hC2⟩ : ∃ C, C = (B2 && decide ((k2 : Int) < ws.length)) := ⟨_, rfl⟩
                        rw [← hC2]
                        have HC2 := Lib.hid hC2
                        clear hC2
                        go_upto_if 65 with fail
                        go_cut [7] (fun v wq => ∃ (k' : Nat) (x' : Int), v = .int .i64 k' ∧ S.takeN B2 S.refNum (ws.drop k2) = (x', ws.drop k') ∧ k' ≤ ws.length ∧ InstAt gx ⟨op, x0, x1, x', 0⟩ wq ∧ Below w1.heap.size w1 wq)
                        case first =>
                          have hI := HI1.out
                          have hc := hI.cell 3
                          have hf := hI.frozen 3
                          cases C2 with
                          | false =>
                            have Ht : Hid (S.takeN B2 S.refNum (ws.drop k2) = (0, ws.drop k2)) := Lib.hid (take_off HC2.out)
                            go_wp2_with fail
                            go_meet
                            case rel => exact ⟨k2, 0, rfl, Ht.out, hk2l, hI, HW1.out⟩
                          | true =>
                            obtain ⟨hlt, ht⟩ := take_on (f := S.refNum) HC2.out
                            have Ht := Lib.hid ht
                            have hcw := (hW.keep HW1.out hg2) k2 hlt
                            have hus := Hsh.out k2
                            clear ht
                            generalize ws.getD k2 [] = uu at *
                            go_wp2_with fail
                            refine (ref_Number ⟨uu.toArray⟩ (by show uu.length ≤ _; omega) _).mono ?_
                            rintro e wq ⟨rfl, rfl⟩
                            rw [show ByteArray.data ⟨uu.toArray⟩ = uu.toArray from rfl, List.toList_toArray]
                            generalize S.refNum uu = N at *
                            go_wp2_with fail
                            go_meet
                            case rel => exact ⟨k2 + 1, N, by go_num, Ht.out, by omega, hI.put3, HW1.out.setCell hgx1 _⟩
                        case rest =>
                          obtain ⟨k3, x2, rfl, ht2, hk3l, hI2, hB2⟩ := hcut
                          have Ht2 := Lib.hid ht2
                          have HI2 := Lib.hid hI2
                          have HW2 := Lib.hid hB2
                          clear HI1 HW1 ht2 hI2 hB2
                          generalize wc = wz2 at *
                          obtain ⟨B3, hB3⟩ : ∃ B, B = decide (0 < S.bitsOf (S.form op)) := ⟨_, rfl⟩
                          have HB3 := Lib.hid hB3
                          go_upto_region 19 with fail
                          go_cut [82] (fun v wq => v = .bool (B3 && decide ((k3 : Int) < ws.length)) ∧ wz2 = wq)
                          case first =>
                            go_wp2_with fail
                            refine (ref_Bits op wz2).mono ?_
                            rintro e wq ⟨rfl, rfl⟩
                            generalize S.bitsOf (S.form op) = K at *
                            by_cases hK : 0 < K
                            · go_wp2_with fail
                              go_meet
                              case rel => exact ⟨by rw [hB3, decide_eq_true hK]; simp, rfl⟩
                            · go_wp2_with fail
                              go_meet
                              case rel => exact ⟨by rw [hB3, decide_eq_false (by omega)]; simp, rfl⟩
                          case rest =>
                            obtain ⟨rfl, rfl⟩ := hcut
                            clear hB3
                            obtain ⟨C3, hC3⟩ : ∃ C, C = (B3 && decide ((k3 : Int) < ws.length)) := ⟨_, rfl⟩
                            rw [← hC3]
                            have HC3 := Lib.hid hC3
                            clear hC3
                            go_upto_if 82 with fail
                            go_cut [7] (fun v wq => ∃ (k' : Nat) (x' : Int), v = .int .i64 k' ∧ (S.takeN B3 S.refNum (ws.drop k3)).1 = x' ∧ k' ≤ ws.length ∧ InstAt gx ⟨op, x0, x1, x2, x'⟩ wq ∧ Below w1.heap.size w1 wq)
                            case first =>
                              have hI := HI2.out
                              have hc := hI.cell 4
                              have hf := hI.frozen 4
                              cases C3 with
                              | false =>
                                have Ht : Hid ((S.takeN B3 S.refNum (ws.drop k3)).1 = 0) := Lib.hid (by rw [take_off HC3.out])
                                go_wp2_with fail
                                go_meet
                                case rel => exact ⟨k3, 0, rfl, Ht.out, hk3l, hI, HW2.out⟩
                              | true =>
                                obtain ⟨hlt, ht⟩ := take_on (f := S.refNum) HC3.out
                                have Ht := Lib.hid ht
                                have hcw := (hW.keep HW2.out hg2) k3 hlt
                                have hus := Hsh.out k3
                                clear ht
                                generalize ws.getD k3 [] = uu at *
                                go_wp2_with fail
                                refine (ref_Number ⟨uu.toArray⟩ (by show uu.length ≤ _; omega) _).mono ?_
                                rintro e wq ⟨rfl, rfl⟩
                                rw [show ByteArray.data ⟨uu.toArray⟩ = uu.toArray from rfl, List.toList_toArray]
                                generalize S.refNum uu = N at *
                                go_wp2_with fail
                                go_meet
                                case rel => exact ⟨k3, N, by go_num, by rw [Ht.out], by omega, hI.put4, HW2.out.setCell hgx1 _⟩
                            case rest =>
                              obtain ⟨k4, x3, rfl, ht3, hk4l, hI3, hB3⟩ := hcut
                              have Ht3 := Lib.hid ht3
                              have HI3 := Lib.hid hI3
                              have HW3 := Lib.hid hB3
                              clear HI2 HW2 ht3 hI3 hB3
                              generalize wc = wz3 at *
                              have hC := cand_of Hr0.out HB0.out Ht0.out HB1.out Ht1.out HB2.out Ht2.out HB3.out Ht3.out
                              have HCd := Lib.hid hC
                              clear hC
                              have hI := HI3.out
                              have hbz := HW3.out
                              have hzz := hbz.size
                              have hltx := hI.lt
                              have hc0 := hI.cell 0
                              have hc1 := hI.cell 1
                              have hc2 := hI.cell 2
                              have hc3 := hI.cell 3
                              have hc4 := hI.cell 4
                              go_wp2_with fail
                              refine (ref_Text op x0 x1 x2 x3 wz3).mono ?_
                              rintro e wt ⟨rfl, hbt⟩
                              have hI' := hI.keep hbt
                              have hd0 := hI'.cell 0
                              have hd1 := hI'.cell 1
                              have hd2 := hI'.cell 2
                              have hd3 := hI'.cell 3
                              have hd4 := hI'.cell 4
                              have HBT := Lib.hid (hbz.trans (hbt.mono hzz))
                              clear hI hI' hbz hzz hltx hc0 hc1 hc2 hc3 hc4 hbt
                              rw [← HCd.out]
                              obtain ⟨T, hT⟩ : ∃ T, T = S.text (S.cand S.refNum S.refNum op ws.tail) := ⟨_, rfl⟩
                              rw [← hT]
                              have HT := Lib.hid hT
                              clear hT
                              go_upto_if 92 with fail
                              have Hls : Hid (s.toList = l) := Lib.hid (by rw [ByteArray.toList_eq, Hl.out])
                              rw [Hls.out]
                              have hbT := HBT.out
                              have hzT := hbT.size
                              by_cases hTl : T = l
                              · have Hf : Hid (PP = (⟨op, x0, x1, x2, x3⟩, 0)) := Lib.hid (by rw [HP.out, parse_here Hnm.out (HT.out.symm.trans hTl), HCd.out])
                                rw [show (T == l) = true by rw [hTl]; simp]
                                clear hTl
                                have hI : InstAt w.heap.size ⟨0, 0, 0, 0, 0⟩ wt := (hbT.block w.heap.size hz1).trans hgI
                                have hlt0 : w.heap.size < wt.heap.size := by omega
                                have f0 := hI.frozen 0
                                have f1 := hI.frozen 1
                                have f2 := hI.frozen 2
                                have f3 := hI.frozen 3
                                have f4 := hI.frozen 4
                                have e0 := hI.cell 0
                                have e1 := hI.cell 1
                                have e2 := hI.cell 2
                                have e3 := hI.cell 3
                                have e4 := hI.cell 4
                                go_wp2_with fail
                                refine res_inst rfl rfl rfl rfl (instFive hI op x0 x1 x2 x3) ⟨by rw [Hf.out], below5 (Hb1.out.trans (hbT.mono (Nat.le_of_lt hz1))) (Nat.le_refl _) _ _ _ _ _⟩
                              · have Hnx := Lib.hid (parse_next_text (fr := S.refNum) (fi := S.refNum) (s := l) (ws := ws) (k := k) (op := op) (fun e => hTl (HT.out.trans e)))
                                rw [show (T == l) = false by simp [hTl]]
                                clear hTl
                                go_wp2_with fail
                                go_roundw
                                case rel => exact ⟨k, by omega, by congr 1; have := HOP.out; omega, by rw [HP.out, Hnx.out, HOP.out]; congr 1; omega, hbT⟩
                                case measure =>
                                  simp only [intOf]
                                  omega
          · have d0 : (!(S.nameL op == u)) = true := by simp [hnm]
            have Hnx := Lib.hid (parse_next_name (fr := S.refNum) (fi := S.refNum) (s := l) (ws := ws) (k := k) (op := op) (fun e => hnm (e.trans Hu.out)))
            rw [d0]
            clear d0 hnm
            go_wp2_with fail
            go_roundw
            case rel => exact ⟨k, by omega, by congr 1; have := HOP.out; omega, by rw [HP.out, Hnx.out, HOP.out]; congr 1; omega, hbw⟩
            case measure =>
              simp only [intOf]
              omega

end Go.Proofs.YtjhchgbeglhoaaaDoor
