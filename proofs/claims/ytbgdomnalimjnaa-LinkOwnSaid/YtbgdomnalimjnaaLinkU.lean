/- Walk of the law LinkOwn. -/
import Derived.Test.YtbgdomnalimjnaaLinkN
import Derived.Test.YtbgdomnalimjnaaLinkPl
import Derived.Laws.IdiomStrings
set_option linter.unusedVariables false
set_option linter.unusedSimpArgs false
set_option linter.unusedSectionVars false
namespace Go.Proofs.Ytbgdomnalimjnaa
open Go.RowKit

/-! ### Plain -/
def itsO (n : Nat) (s : ByteArray) : List S.Item := wordsN n ++ [labI s, refI s]
def dotL (s : ByteArray) : ByteArray := ⟨#[46]⟩ ++ s
theorem own_dot (s : ByteArray) : S.ownB (dotL s) = true := by
  simp [S.ownB, dotL]
theorem dot_size (s : ByteArray) : (dotL s).size = s.size + 1 := by
  have e : (⟨#[46]⟩ : ByteArray).size = 1 := rfl
  rw [dotL, ByteArray.size_append, e]
  omega
theorem own_nil (n : ByteArray) : S.owned n ⟨#[]⟩ = ⟨#[]⟩ := by
  have : S.ownB ⟨#[]⟩ = false := by decide
  simp [S.owned, this]
theorem words_own (n : ByteArray) (k : Nat) : (wordsN k).map (S.ownItem n) = wordsN k := by
  unfold wordsN
  rw [List.map_map]
  apply List.map_congr_left
  intro i _
  simp only [Function.comp, S.ownItem, own_nil]
theorem owned_dot (n s : ByteArray) : S.owned n (dotL s) = n ++ dotL s := by simp [S.owned, own_dot]
theorem itsO_own (n : ByteArray) (k : Nat) (s : ByteArray) : (itsO k (dotL s)).map (S.ownItem n) = wordsN k ++ [labI (n ++ dotL s), refI (n ++ dotL s)] := by
  rw [itsO, List.map_append, words_own]
  simp [S.ownItem, labI, refI, owned_dot]
theorem joined_X (s : ByteArray) (n k : Nat) : S.joined [⟨nA, itsO n (dotL s)⟩, ⟨nB, itsO k (dotL s)⟩] = ownX (nA ++ dotL s) (nB ++ dotL s) n k := by
  simp only [S.joined, S.itemsOf, List.flatMap_cons, List.flatMap_nil, List.append_nil, itsO_own, ownX]
  simp
theorem names_X (s : ByteArray) (xs ys : List S.Item) : S.namesOf [⟨nA, xs⟩, ⟨nB, ys⟩] = 0 := by
  have b1 : S.badN ⟨nA, xs⟩ = false := by simp [S.badN, nA, S.ownB]
  have b2 : S.badN ⟨nB, ys⟩ = false := by simp [S.badN, nB, S.ownB]
  have b3 : (nB = nA) = False := by simp [nA, nB]
  simp [S.namesOf, S.dupB, b1, b2, b3]
theorem ab_ne (s : ByteArray) : nA ++ s ≠ nB ++ s := by
  intro h
  have := congrArg (fun b => b.data.toList.head?) h
  simp [nA, nB] at this
theorem link_X (s : ByteArray) {n k : Nat} (hn : n ≤ 30) (hk : k ≤ 30) : ∃ L P, LinkRes [⟨nA, itsO n (dotL s)⟩, ⟨nB, itsO k (dotL s)⟩] 0 0 L P ∧ L.length = n + k + 2 ∧ L[n]? = some (4 * (n : Int)) ∧ L[n + 1 + k]? = some (4 * (n + 1 + k : Int)) ∧
    S.findP P (nA ++ dotL s) = some (n : Int) ∧ S.findP P (nB ++ dotL s) = some (n + 1 + k : Int) ∧ P.length ≤ n + 4 + k := by
  have hr := ownX_res (ab_ne (dotL s)) hn hk
  obtain ⟨h1, h2, h3, h4, h5⟩ := ownX_out (ab_ne (dotL s)) hn hk hr
  have hl := linkRes_ok (os := [⟨nA, itsO n (dotL s)⟩, ⟨nB, itsO k (dotL s)⟩]) (base := 0) (names_X s _ _) (by rw [joined_X]; exact hr)
  rw [joined_X] at hl
  refine ⟨_, _, hl, by omega, h2, h3, h4, h5, ?_⟩
  have := placesTo_length (ownX (nA ++ dotL s) (nB ++ dotL s) n k) ((ownX (nA ++ dotL s) (nB ++ dotL s) n k).map S.startForm) 0 (ownX (nA ++ dotL s) (nB ++ dotL s) n k).length
  rw [ownX_len] at this ⊢
  exact this

def ownY (s t : ByteArray) (n : Nat) : List S.Item := wordsN n ++ [labI s, refI s, refI t]
theorem ownY_at {s t : ByteArray} {n i : Nat} {x : S.Item} (h : (ownY s t n)[i]? = some x) : x ∈ wordsN n ∨ (i = n ∧ x = labI s) ∨ (i = n + 1 ∧ x = refI s) ∨ (i = n + 2 ∧ x = refI t) := by
  unfold ownY at h
  by_cases h1 : i < n
  · rw [List.getElem?_append_left (by rw [wordsN_len]; exact h1)] at h
    exact .inl (List.mem_of_getElem? h)
  rw [List.getElem?_append_right (by rw [wordsN_len]; omega), wordsN_len] at h
  match hd : i - n, h with
  | 0, h => simp at h; exact .inr (.inl ⟨by omega, h.symm⟩)
  | 1, h => simp at h; exact .inr (.inr (.inl ⟨by omega, h.symm⟩))
  | 2, h => simp at h; exact .inr (.inr (.inr ⟨by omega, h.symm⟩))
  | j + 3, h => simp at h
theorem ownY_0 (s t : ByteArray) (n : Nat) : (ownY s t n)[n]? = some (labI s) := by
  unfold ownY
  rw [List.getElem?_append_right (by rw [wordsN_len]; omega), wordsN_len, Nat.sub_self]
  rfl
theorem ownY_2 (s t : ByteArray) (n : Nat) : (ownY s t n)[n + 2]? = some (refI t) := by
  unfold ownY
  rw [List.getElem?_append_right (by rw [wordsN_len]; omega), wordsN_len, Nat.add_sub_cancel_left]
  rfl
theorem ownY_res {s t : ByteArray} (hst : s ≠ t) (n : Nat) : S.FormsRes (ownY s t n) 0 12 [] := by
  refine .inl ⟨by decide, .inr (.inr (.inr (.inl ⟨Int.le_refl _, by decide, firstErr_zero fun x hx => ?_, ?_, ⟨n + 2, refI t, ownY_2 s t n, by simp [S.named, refI], ?_⟩, rfl⟩))), rfl⟩
  · obtain ⟨i, hi, rfl⟩ := List.getElem_of_mem hx
    rcases ownY_at (List.getElem?_eq_getElem hi) with h | ⟨_, h⟩ | ⟨_, h⟩ | ⟨_, h⟩
    · exact (wordsN_mem h).2.2.1
    all_goals (rw [h]; rfl)
  · rintro ⟨i, x, hx, hk, hs⟩
    rcases ownY_at hx with h | ⟨hi, h⟩ | ⟨_, h⟩ | ⟨_, h⟩
    · have := (wordsN_mem h).1; omega
    · rw [h] at hs
      refine hs ?_
      rw [hi]
      refine stands_eq (ownY_0 s t n) rfl rfl fun m y hm hy => ?_
      rintro ⟨h1, h2⟩
      rcases ownY_at hy with h | ⟨_, h⟩ | ⟨_, h⟩ | ⟨_, h⟩
      · have := (wordsN_mem h).1; omega
      all_goals omega
    · rw [h] at hk; simp [refI] at hk
    · rw [h] at hk; simp [refI] at hk
  · rw [stands_none fun m y hy => ?_]
    · decide
    · rintro ⟨h1, h2⟩
      rcases ownY_at hy with h | ⟨_, h⟩ | ⟨_, h⟩ | ⟨_, h⟩
      · have := (wordsN_mem h).1; omega
      · rw [h] at h2; exact hst h2
      · rw [h] at h1; simp [refI] at h1
      · rw [h] at h1; simp [refI] at h1
theorem link_Y (s : ByteArray) (n : Nat) : LinkRes [⟨nA, itsO n (dotL s)⟩, ⟨nB, [refI (dotL s)]⟩] 0 12 [] [] := by
  refine linkRes_err (names_X s _ _) (by decide) (F := []) ?_
  have e : S.joined [⟨nA, itsO n (dotL s)⟩, ⟨nB, [refI (dotL s)]⟩] = ownY (nA ++ dotL s) (nB ++ dotL s) n := by
    simp only [S.joined, S.itemsOf, List.flatMap_cons, List.flatMap_nil, List.append_nil, itsO_own, ownY]
    simp [S.ownItem, refI, owned_dot]
  rw [e]
  exact ownY_res (ab_ne _) n
theorem itsO_len (n : Nat) (s : ByteArray) : (itsO n s).length = n + 2 := by simp [itsO, wordsN_len]
theorem itsO_lab {n : Nat} {s : ByteArray} {x : S.Item} (h : x ∈ itsO n s) : x.label.size ≤ s.size := by
  rcases List.mem_append.1 h with h | h
  · rw [(wordsN_mem h).2.1]; exact Nat.zero_le _
  · simp only [List.mem_cons, List.not_mem_nil, or_false] at h
    rcases h with rfl | rfl <;> exact Nat.le_refl _
theorem itsO_words {n : Nat} (hn : n ≤ 30) (s : ByteArray) : ∀ x ∈ itsO n s, 0 ≤ x.word ∧ x.word ≤ 4294967295 := by
  intro x h
  rcases List.mem_append.1 h with h | h
  · have := (wordsN_mem h).2.2.2; omega
  · simp only [List.mem_cons, List.not_mem_nil, or_false] at h
    rcases h with rfl | rfl <;> simp [labI, refI]
theorem words_succ (t : Nat) : (wordsN (t + 1)).flatMap itemCells = (wordsN t).flatMap itemCells ++ [.int .i64 6, .int .i64 0, .int .i64 0, .int .i64 0, .int .i64 0, .int .i64 0, .string ⟨#[]⟩, .int .u32 t] := by
  unfold wordsN
  rw [List.range_succ, List.map_append, List.flatMap_append]
  rfl

/-! ### Objects in a row of the call's own -/
theorem object_info : (Try.prog.info? 66).map (fun i => (i.zero, i.size, i.bytes)) = some (some (.agg #[.string ByteArray.empty, .slice none 0 0]), 2, 40) := by kernel_rfl
theorem Objs.of_row2 {w : World} {B : Nat} {e : TypeId} {A A0 A1 : Option Addr} {c c0 c1 n0 n1 : Nat} {a o : S.Obj} {s s' : ByteArray} (h : w.ownsRow B e 2 (.slice A 2 c) 2 [.string s, .slice A0 n0 c0, .string s', .slice A1 n1 c1])
    (hI : Items w w.heap.size A0 a.items) (hI' : Items w w.heap.size A1 o.items) (hn : ∀ q ∈ [a, o], q.name.size ≤ maxLen ∧ ∀ y ∈ q.items, y.label.size ≤ maxLen) (es : s = a.name) (es' : s' = o.name) (en : n0 = a.items.length) (en' : n1 = o.items.length) : Objs w w.heap.size A [a, o] := fun _ => by
  subst es es' en en'
  obtain ⟨g, rfl, _, hg, _, hc, _⟩ := ownsRow_at h (by omega)
  refine ⟨g, 0, rfl, hg, fun i x hx => ?_⟩
  have hm := List.mem_of_getElem? hx
  match i, hx with
  | 0, hx =>
    simp at hx; subst hx
    exact ⟨hc 0 (by omega), ⟨A0, c0, hc 1 (by omega), hI⟩, (hn _ hm).1, (hn _ hm).2⟩
  | 1, hx =>
    simp at hx; subst hx
    exact ⟨hc 2 (by omega), ⟨A1, c1, hc 3 (by omega), hI'⟩, (hn _ hm).1, (hn _ hm).2⟩
  | k + 2, hx => simp at hx
theorem own_facts {os : List S.Obj} (h : ∀ q ∈ os, q.name.size ≤ 1 ∧ ∀ y ∈ q.items, y.label.size ≤ 21) :
    (∀ q ∈ os, q.name.size ≤ maxLen ∧ ∀ y ∈ q.items, y.label.size ≤ maxLen) ∧ (∀ (k : Nat) (o : S.Obj), os[k]? = some o → ∀ x ∈ o.items, o.name.size + x.label.size ≤ 9223372036854775807) := by
  refine ⟨fun q hq => ?_, fun k o ho x hx => ?_⟩
  · obtain ⟨h1, h2⟩ := h q hq
    refine ⟨by simp only [maxLen]; omega, fun y hy => ?_⟩
    have := h2 y hy
    simp only [maxLen]; omega
  · obtain ⟨h1, h2⟩ := h o (List.mem_of_getElem? ho)
    have := h2 x hx
    omega
theorem conv_byte (w : World) (n : UInt8) (h : w.cell? ⟨w.heap.size - 1, 0, none⟩ = some (.int .u8 n.toNat)) (hz : 0 < w.heap.size) :
    (convert 23 9 (.slice (some ⟨w.heap.size - 1, 0, none⟩) 1 1)).run Try.prog w = .ok (.string ⟨#[n]⟩) w :=
  run_convert_bytes_back (P := Try.prog) w 23 9 5 ⟨w.heap.size - 1, 0, none⟩ 1 [n] Try.underlying23 Try.underlying5 Try.underlying9 (fun j hj => by
    simp at hj
    subst hj
    exact h)

def IRow (w : World) (B : Nat) (A : Option Addr) (c : Nat) (n : Nat) (s : ByteArray) : Prop := w.ownsRow B 57 8 (.slice A (n + 2) c) (n + 2) ((itsO n s).flatMap itemCells)
def LO (w : World) (B : Nat) (s : ByteArray) (n k : Nat) (v : Value) (i : Nat) : Prop :=
  (i = 0 ∧ w.ownsRow B 66 2 v 0 []) ∨
  (i = 1 ∧ ∃ A0 c0, w.ownsRow B 66 2 v 1 [.string nA, .slice A0 (n + 2) c0] ∧ IRow w B A0 c0 n s) ∨
  (i = 2 ∧ ∃ A0 c0 A1 c1, w.ownsRow B 66 2 v 2 [.string nA, .slice A0 (n + 2) c0, .string nB, .slice A1 (k + 2) c1] ∧ IRow w B A0 c0 n s ∧ IRow w B A1 c1 k s)

set_option maxRecDepth 100000 in
set_option maxHeartbeats 8000000 in
theorem law_LinkOwn (s0 : ByteArray) (a0 a1 : Int) (w : World) (h0 : 0 ≤ a0 ∧ a0 ≤ 255) (h1 : 0 ≤ a1 ∧ a1 ≤ 255) (hs0 : s0.size ≤ maxLen) :
    Calls Try.prog 8 #[.string s0, .agg #[.int .u8 a0, .int .u8 a1]] w fun e w' => e = .returned (.bool true) ∧ Below w.heap.size w w' := by
  obtain ⟨n, hn⟩ : ∃ n : Nat, a0.tmod 31 = n := ⟨(a0.tmod 31).toNat, by have := Int.tmod_nonneg 31 h0.1; omega⟩
  obtain ⟨k, hk⟩ : ∃ n : Nat, a1.tmod 31 = n := ⟨(a1.tmod 31).toNat, by have := Int.tmod_nonneg 31 h1.1; omega⟩
  have hn30 : n ≤ 30 := by have := Int.tmod_lt_of_pos a0 (show (0 : Int) < 31 by omega); omega
  have hk30 : k ≤ 30 := by have := Int.tmod_lt_of_pos a1 (show (0 : Int) < 31 by omega); omega
  go_enter Try.func8, Try.ntmps8
  go_upto_region 1 with fail
  obtain ⟨x1, x2, x3⟩ := one_allocL w #[.int .u8 a0, .int .u8 a1] 74
  generalize w.alloc (.cells #[.int .u8 a0, .int .u8 a1] 74) = wb at *
  have q0 : wb.cell? ⟨w.heap.size, 0, none⟩ = some (.int .u8 a0) := by rw [blk_cell x1]; rfl
  have q1 : wb.cell? ⟨w.heap.size, 1, none⟩ = some (.int .u8 a1) := by rw [blk_cell x1]; rfl
  have gb : w.heap.size < wb.heap.size := by omega
  have hbb := x2
  unfold maxLen at hs0
  clear x1 x2 x3
  go_upto_if 22 with fail
  go_cut [0] from 23 to 24 (fun v wc => ∃ s, v = .string s ∧ s.size ≤ 20 ∧ wc = wb)
  case first =>
    by_cases h20 : 20 < s0.size
    · have hms : min 20 s0.size = 20 := by omega
      go_wp2_with fail
      go_meet
      exact ⟨_, rfl, by simp [ByteArray.size_extract]; omega, rfl⟩
    · go_wp2_with fail
      go_meet
      exact ⟨_, rfl, by omega, rfl⟩
  case rest =>
  obtain ⟨s, rfl, hs, rfl⟩ := hcut
  have hdz := dot_size s
  have hcat : ¬ 9223372036854775807 < 1 + s.size := by omega
  go_upto_region 4 with fail
  generalize hlab : (⟨#[46]⟩ : ByteArray) ++ s = lab at *
  have HL : Hid (dotL s = lab) := Lib.hid hlab
  have hls : lab.size = s.size + 1 := by rw [← hlab]; exact hdz
  clear hlab hdz hcat
  go_wp2_with fail
  go_loopw [6, 7] (fun v i wr => ∃ j : Nat, i = .int .i64 j ∧ LO wr wc.heap.size lab n k v j ∧ Below wc.heap.size wc wr) (fun _ i _ => 2 - (intOf i).toNat)
  case atStart => exact ⟨0, rfl, .inl ⟨rfl, World.ownsRow_nil _ _ _ _⟩, Below.refl _ _⟩
  case round =>
    obtain ⟨j, rfl, hLO, hbr⟩ := hrel
    have hzr := hbr.size
    unfold LO at hLO
    rcases hLO with ⟨rfl, ho⟩ | ⟨rfl, A0, c0, ho, hI0⟩ | ⟨rfl, A0, c0, A1, c1, ho, hI0, hI1⟩
    · have qa : wr.cell? ⟨w.heap.size, 0, none⟩ = some (.int .u8 a0) := (hbr.cell (p := ⟨w.heap.size, 0, none⟩) gb).trans q0
      obtain ⟨wo, hwo⟩ : ∃ wo : World, wo = wr := ⟨_, rfl⟩
      subst hwo
      have gwo : w.heap.size < wo.heap.size := by omega
      go_wp2_with fail
      go_loopw [8, 9] (fun v2 q wr => ∃ t : Nat, t ≤ n ∧ q = .int .i64 t ∧ wr.ownsRow wo.heap.size 57 8 v2 t ((wordsN t).flatMap itemCells) ∧ Below wo.heap.size wo wr) (fun _ q _ => n - (intOf q).toNat)
      case atStart => exact ⟨0, by omega, rfl, by simp [wordsN]; exact World.ownsRow_nil _ _ _ _, Below.refl _ _⟩
      case round =>
        obtain ⟨t, ht, rfl, ho2, hb2⟩ := hrel
        have hz2 := hb2.size
        have qb := (hb2.cell (p := ⟨w.heap.size, 0, none⟩) gwo).trans qa
        have gb2 : w.heap.size < wr.heap.size := by omega
        have HS := Lib.hid (words_succ t)
        by_cases htm : t < n
        · have hwt : IntKind.u32.wrap (t : Int) = t := by simp [IntKind.wrap, IntKind.signed, IntKind.bits]; omega
          go_wp2_with (at_builtin
                       refine wpList_push rfl (.tmp 40) (.tmp 44) _ rfl wo.heap.size 57 item_info Try.underlying47 rfl (by decide) #[.int .i64 6, .int .i64 0, .int .i64 0, .int .i64 0, .int .i64 0, .int .i64 0, .string ⟨#[]⟩, .int .u32 t] _ _ _ rfl ho2 rfl rfl rfl (by simp [Value.oneCell']) (by simp only [maxLen]; omega) (by omega) (by omega) ?_
                       intro v' w5 ho5 hg5 hb5 hat5)
          have hfin : w5.ownsRow wo.heap.size 57 8 v' (t + 1) ((wordsN (t + 1)).flatMap itemCells) := by rw [HS.out]; exact ho5
          exact ⟨⟨t + 1, by omega, by go_num, hfin, hb2.trans hb5⟩, by simp [intOf]; omega⟩
        · have hte : t = n := by omega
          subst hte
          go_upto_region 13 with fail
          have hx := ho2.alloc (.cells #[.int .i64 2, .int .i64 0, .int .i64 0, .int .i64 0, .int .i64 0, .int .i64 0, .string lab, .int .u32 0, .int .i64 7, .int .i64 0, .int .i64 0, .int .i64 0, .int .i64 0, .int .i64 0, .string lab, .int .u32 0] 57)
          obtain ⟨x1, x2, x3⟩ := one_allocL wr #[.int .i64 2, .int .i64 0, .int .i64 0, .int .i64 0, .int .i64 0, .int .i64 0, .string lab, .int .u32 0, .int .i64 7, .int .i64 0, .int .i64 0, .int .i64 0, .int .i64 0, .int .i64 0, .string lab, .int .u32 0] 57
          have hrd := Reads.lit (B := (wr.alloc (.cells #[.int .i64 2, .int .i64 0, .int .i64 0, .int .i64 0, .int .i64 0, .int .i64 0, .string lab, .int .u32 0, .int .i64 7, .int .i64 0, .int .i64 0, .int .i64 0, .int .i64 0, .int .i64 0, .string lab, .int .u32 0] 57)).heap.size) x1 rfl (by omega)
          go_upto_region 14 with (at_builtin; refine wpList_appendsN rfl (.tmp 46) (.tmp 51) _ rfl wo.heap.size 57 item_info Try.underlying47 rfl (by decide) _ _ _ rfl hx _ (some ⟨wr.heap.size, 0, none⟩) 2 2 _ rfl rfl (fun h => by cases h) hrd (by simp [Value.oneCell']) (by simp only [maxLen]; omega) (by omega) (by omega) ?_; intro v' w6 ho6 hg6 hb6 hat6; obtain ⟨Ai, ci, rfl⟩ := ownsRow_form ho6)
          have hb06 : Below wo.heap.size wo w6 := (hb2.trans (x2.mono (by omega))).trans hb6
          have hi6 : w6.ownsRow wo.heap.size 57 8 (.slice Ai (t + 2) ci) (t + 2) ((itsO t lab).flatMap itemCells) := by
            rw [itsO, List.flatMap_append]
            exact ho6
          have hiB : IRow w6 wc.heap.size Ai ci t lab := ownsRow_base hi6 hzr
          have hor := ownsRow_below ho hb06
          have hz6 := hb06.size
          clear hx x1 x2 x3 hrd ho6 hg6 hb6 hat6 hi6 ho2 hb2 HS qb
          obtain ⟨y1, y2, y3⟩ := one_allocL w6 #[.int .u8 97] 5
          have hcv : (convert 23 9 (.slice (some ⟨w6.heap.size, 0, none⟩) 1 1)).run Try.prog (w6.alloc (.cells #[.int .u8 97] 5)) = .ok (.string ⟨#[97]⟩) (w6.alloc (.cells #[.int .u8 97] 5)) :=
            run_convert_bytes_back (P := Try.prog) _ 23 9 5 ⟨w6.heap.size, 0, none⟩ 1 [97] Try.underlying23 Try.underlying5 Try.underlying9 (fun j hj => by
              simp at hj
              subst hj
              show World.cell? _ ⟨w6.heap.size, 0, none⟩ = _
              rw [blk_cell y1]
              rfl)
          have horx := hor.alloc (.cells #[.int .u8 97] 5)
          go_wp2_with (at_builtin
                       refine wpList_push rfl (.tmp 53) (.tmp 61) _ rfl wc.heap.size 66 object_info Try.underlying45 rfl (by decide) #[.string ⟨#[97]⟩, .slice Ai (t + 2) ci] _ _ _ rfl horx rfl (by show Value.slice (some ⟨w6.heap.size + 1, 0, none⟩) 1 1 = _; simp) rfl (by simp [Value.oneCell']) (by simp only [maxLen]; omega) (by omega) (by simp; omega) ?_
                       intro v' w7 ho7 hg7 hb7 hat7)
          have hbf : Below wc.heap.size wc w7 := (hbr.trans (hb06.mono hzr)).trans (((one_allocL w6 #[.int .u8 97] 5).2.1.mono (by omega)).trans hb7)
          have hi7 : IRow w7 wc.heap.size Ai ci t lab := ownsRow_other (hiB.alloc _) horx (by decide) hg7
          exact ⟨⟨1, by go_num, .inr (.inl ⟨rfl, _, _, ho7, hi7⟩), hbf⟩, by simp [intOf]⟩
    · have qa : wr.cell? ⟨w.heap.size, 1, none⟩ = some (.int .u8 a1) := (hbr.cell (p := ⟨w.heap.size, 1, none⟩) gb).trans q1
      obtain ⟨wo, hwo⟩ : ∃ wo : World, wo = wr := ⟨_, rfl⟩
      subst hwo
      have gwo : w.heap.size < wo.heap.size := by omega
      go_wp2_with fail
      go_loopw [8, 9] (fun v2 q wr => ∃ t : Nat, t ≤ k ∧ q = .int .i64 t ∧ wr.ownsRow wo.heap.size 57 8 v2 t ((wordsN t).flatMap itemCells) ∧ Below wo.heap.size wo wr) (fun _ q _ => k - (intOf q).toNat)
      case atStart => exact ⟨0, by omega, rfl, by simp [wordsN]; exact World.ownsRow_nil _ _ _ _, Below.refl _ _⟩
      case round =>
        obtain ⟨t, ht, rfl, ho2, hb2⟩ := hrel
        have hz2 := hb2.size
        have qb := (hb2.cell (p := ⟨w.heap.size, 1, none⟩) gwo).trans qa
        have gb2 : w.heap.size < wr.heap.size := by omega
        have HS := Lib.hid (words_succ t)
        by_cases htm : t < k
        · have hwt : IntKind.u32.wrap (t : Int) = t := by simp [IntKind.wrap, IntKind.signed, IntKind.bits]; omega
          go_wp2_with (at_builtin
                       refine wpList_push rfl (.tmp 40) (.tmp 44) _ rfl wo.heap.size 57 item_info Try.underlying47 rfl (by decide) #[.int .i64 6, .int .i64 0, .int .i64 0, .int .i64 0, .int .i64 0, .int .i64 0, .string ⟨#[]⟩, .int .u32 t] _ _ _ rfl ho2 rfl rfl rfl (by simp [Value.oneCell']) (by simp only [maxLen]; omega) (by omega) (by omega) ?_
                       intro v' w5 ho5 hg5 hb5 hat5)
          have hfin : w5.ownsRow wo.heap.size 57 8 v' (t + 1) ((wordsN (t + 1)).flatMap itemCells) := by rw [HS.out]; exact ho5
          exact ⟨⟨t + 1, by omega, by go_num, hfin, hb2.trans hb5⟩, by simp [intOf]; omega⟩
        · have hte : t = k := by omega
          subst hte
          go_upto_region 13 with fail
          have hx := ho2.alloc (.cells #[.int .i64 2, .int .i64 0, .int .i64 0, .int .i64 0, .int .i64 0, .int .i64 0, .string lab, .int .u32 0, .int .i64 7, .int .i64 0, .int .i64 0, .int .i64 0, .int .i64 0, .int .i64 0, .string lab, .int .u32 0] 57)
          obtain ⟨x1, x2, x3⟩ := one_allocL wr #[.int .i64 2, .int .i64 0, .int .i64 0, .int .i64 0, .int .i64 0, .int .i64 0, .string lab, .int .u32 0, .int .i64 7, .int .i64 0, .int .i64 0, .int .i64 0, .int .i64 0, .int .i64 0, .string lab, .int .u32 0] 57
          have hrd := Reads.lit (B := (wr.alloc (.cells #[.int .i64 2, .int .i64 0, .int .i64 0, .int .i64 0, .int .i64 0, .int .i64 0, .string lab, .int .u32 0, .int .i64 7, .int .i64 0, .int .i64 0, .int .i64 0, .int .i64 0, .int .i64 0, .string lab, .int .u32 0] 57)).heap.size) x1 rfl (by omega)
          go_upto_region 14 with (at_builtin; refine wpList_appendsN rfl (.tmp 46) (.tmp 51) _ rfl wo.heap.size 57 item_info Try.underlying47 rfl (by decide) _ _ _ rfl hx _ (some ⟨wr.heap.size, 0, none⟩) 2 2 _ rfl rfl (fun h => by cases h) hrd (by simp [Value.oneCell']) (by simp only [maxLen]; omega) (by omega) (by omega) ?_; intro v' w6 ho6 hg6 hb6 hat6; obtain ⟨Ai, ci, rfl⟩ := ownsRow_form ho6)
          have hb06 : Below wo.heap.size wo w6 := (hb2.trans (x2.mono (by omega))).trans hb6
          have hi6 : w6.ownsRow wo.heap.size 57 8 (.slice Ai (t + 2) ci) (t + 2) ((itsO t lab).flatMap itemCells) := by
            rw [itsO, List.flatMap_append]
            exact ho6
          have hiB : IRow w6 wc.heap.size Ai ci t lab := ownsRow_base hi6 hzr
          have hor := ownsRow_below ho hb06
          have hz6 := hb06.size
          clear hx x1 x2 x3 hrd ho6 hg6 hb6 hat6 hi6 ho2 hb2 HS qb
          obtain ⟨y1, y2, y3⟩ := one_allocL w6 #[.int .u8 98] 5
          have hcv : (convert 23 9 (.slice (some ⟨w6.heap.size, 0, none⟩) 1 1)).run Try.prog (w6.alloc (.cells #[.int .u8 98] 5)) = .ok (.string ⟨#[98]⟩) (w6.alloc (.cells #[.int .u8 98] 5)) :=
            run_convert_bytes_back (P := Try.prog) _ 23 9 5 ⟨w6.heap.size, 0, none⟩ 1 [98] Try.underlying23 Try.underlying5 Try.underlying9 (fun j hj => by
              simp at hj
              subst hj
              show World.cell? _ ⟨w6.heap.size, 0, none⟩ = _
              rw [blk_cell y1]
              rfl)
          have horx := hor.alloc (.cells #[.int .u8 98] 5)
          go_wp2_with (at_builtin
                       refine wpList_push rfl (.tmp 53) (.tmp 61) _ rfl wc.heap.size 66 object_info Try.underlying45 rfl (by decide) #[.string ⟨#[98]⟩, .slice Ai (t + 2) ci] _ _ _ rfl horx rfl (by show Value.slice (some ⟨w6.heap.size + 1, 0, none⟩) 1 1 = _; simp) rfl (by simp [Value.oneCell']) (by simp only [maxLen]; omega) (by omega) (by simp; omega) ?_
                       intro v' w7 ho7 hg7 hb7 hat7)
          have hbf : Below wc.heap.size wc w7 := (hbr.trans (hb06.mono hzr)).trans (((one_allocL w6 #[.int .u8 98] 5).2.1.mono (by omega)).trans hb7)
          have hi7 : IRow w7 wc.heap.size Ai ci t lab := ownsRow_other (hiB.alloc _) horx (by decide) hg7
          have hj7 : IRow w7 wc.heap.size A0 c0 n lab := ownsRow_other ((ownsRow_below hI0 hb06).alloc _) horx (by decide) hg7
          exact ⟨⟨2, by go_num, .inr (.inr ⟨rfl, _, _, _, _, ho7, hj7, hi7⟩), hbf⟩, by simp [intOf]⟩
    · obtain ⟨Av, cv, rfl⟩ := ownsRow_form ho
      obtain ⟨g, rfl, hg0, hg1, _, _, hgf⟩ := ownsRow_at ho (by omega)
      have hlk := link_X s hn30 hk30
      rw [HL.out] at hlk
      obtain ⟨L, P, hlink, hL, hLn, hLk, hP1, hP2, hPl⟩ := hlk
      simp only [nA, nB] at hP1 hP2
      obtain ⟨j, hj⟩ : ∃ j : Nat, (n : Int) + 1 + (k : Int) = j := ⟨n + 1 + k, by omega⟩
      have hjn : n + 1 + k = j := by omega
      rw [hj] at hLk hP2
      rw [hjn] at hLk
      have Hlink := Lib.hid hlink
      have hnm : ∀ q ∈ [(⟨nA, itsO n lab⟩ : S.Obj), ⟨nB, itsO k lab⟩], q.name.size ≤ 1 ∧ ∀ y ∈ q.items, y.label.size ≤ 21 := by
        intro q hq
        simp only [List.mem_cons, List.not_mem_nil, or_false] at hq
        rcases hq with rfl | rfl
        · exact ⟨Nat.le_refl _, fun y hy => by have := itsO_lab hy; omega⟩
        · exact ⟨Nat.le_refl _, fun y hy => by have := itsO_lab hy; omega⟩
      obtain ⟨nm1, nm2⟩ := own_facts hnm
      have hO := Objs.of_row2 (a := ⟨nA, itsO n lab⟩) (o := ⟨nB, itsO k lab⟩) ho (Items.of_own hI0 (itsO_words (by omega) _)) (Items.of_own hI1 (itsO_words (by omega) _)) nm1 rfl rfl (itsO_len n lab).symm (itsO_len k lab).symm
      have hjl : (S.joined [(⟨nA, itsO n lab⟩ : S.Obj), ⟨nB, itsO k lab⟩]).length ≤ 1048576 := by simp [S.joined, S.itemsOf, itsO_len]; omega
      have hcall : Calls Try.prog 26 #[.slice (some ⟨g, 0, none⟩) 2 cv, .int .i64 0] wr (Linked [⟨nA, itsO n lab⟩, ⟨nB, itsO k lab⟩] 0 wr) := link_Link _ _ _ _ _ hO (by simp) hjl nm2
      have Hcall := Lib.hid hcall
      clear hcall hlink hnm nm1 nm2 hO hjl
      go_wp2_with fail
      refine Hcall.out.mono ?_
      rintro e w2 ⟨vo, vp, r, L', P', rfl, hres, ho2, hp2, hb2⟩
      obtain ⟨e0, eL, eP⟩ := linkRes_fun Hlink.out hres
      subst e0 eL eP
      clear hres Hcall Hlink
      obtain ⟨Ao, co, rfl⟩ := ownsRow_form ho2
      obtain ⟨Ap, cp, rfl⟩ := ownsRow_form hp2
      have hR2 := Reads.of_own ho2
      have hP2r := ReadsP.of_own hp2
      have hz2 := hb2.size
      rw [hL] at *
      obtain ⟨x1, x2, x3⟩ := one_allocL w2 #[.slice Ao (n + k + 2) co, .slice Ap P.length cp] 51
      go_upto_region 16 with fail
      generalize w2.alloc (.cells #[.slice Ao (n + k + 2) co, .slice Ap P.length cp] 51) = w3 at *
      have g3 : w2.heap.size < w3.heap.size := by omega
      have hX0 : w3.cell? ⟨w2.heap.size, 0, none⟩ = some (.slice Ao (n + k + 2) co) := by rw [blk_cell x1]; rfl
      have hX1 : w3.cell? ⟨w2.heap.size, 1, none⟩ = some (.slice Ap P.length cp) := by rw [blk_cell x1]; rfl
      have hb13 : Below wr.heap.size wr w3 := hb2.trans (x2.mono hz2)
      have hR3 := hR2.below x2
      have hP3 := (hP2r.below x2).more x2.size
      have hc1 : ¬ 9223372036854775807 < 1 + lab.size := by omega
      clear x1 x2 x3 hb2 hR2 hP2r ho2 hp2
      go_wp2_with fail
      refine (link_Find (.bool true) _ _ _ _ _ P _ w3 hP3 (by omega)).mono ?_
      rintro e w4 ⟨rfl, hb4⟩
      rw [hP1]
      have hz4 := hb4.size
      have hX0' := (hb4.cell (p := ⟨w2.heap.size, 0, none⟩) g3).trans hX0
      have hX1' := (hb4.cell (p := ⟨w2.heap.size, 1, none⟩) g3).trans hX1
      have hb14 : Below wr.heap.size wr w4 := hb13.trans (hb4.mono (by omega))
      have hR4 := hR3.below (hb4.mono (by omega))
      have hP4 := (hP3.below hb4).more hz4
      have g4 : w2.heap.size < w4.heap.size := by omega
      clear hb4 hX0 hX1 hb13 hR3 hP3
      go_wp2_with fail
      refine (link_Find (.bool true) _ _ _ _ _ P _ w4 hP4 (by omega)).mono ?_
      rintro e w5 ⟨rfl, hb5⟩
      rw [hP2]
      have hz5 := hb5.size
      have hX0 := (hb5.cell (p := ⟨w2.heap.size, 0, none⟩) g4).trans hX0'
      have hb15 : Below wr.heap.size wr w5 := hb14.trans (hb5.mono (by omega))
      have hR5 := hR4.below (hb5.mono (by omega))
      have g5 : w2.heap.size < w5.heap.size := by omega
      clear hb5 hX0' hX1' hb14 hR4 hP4
      have hbw5 : Below wc.heap.size wc w5 := hbr.trans (hb15.mono hzr)
      have p0 := (hbw5.cell (p := ⟨w.heap.size, 0, none⟩) gb).trans q0
      have p1 := (hbw5.cell (p := ⟨w.heap.size, 1, none⟩) gb).trans q1
      have gw5 : w.heap.size < w5.heap.size := by have := hbw5.size; omega
      simp only [Option.getD_some, Option.isSome_some]
      obtain ⟨b1, o1, hA1, hb1, hc1'⟩ := reads_at hR5 (k := n) (v := .int .u32 (4 * n)) (by rw [List.getElem?_map, hLn]; rfl)
      obtain ⟨b2, o2, hA2, hb2, hc2⟩ := reads_at hR5 (k := j) (v := .int .u32 (4 * j)) (by rw [List.getElem?_map, hLk]; rfl)
      rw [hA1] at hA2
      cases hA2
      subst hA1
      have hwn : IntKind.u32.wrap (4 * (n : Int)) = 4 * n := by simp [IntKind.wrap, IntKind.signed, IntKind.bits]; omega
      have hwj : IntKind.u32.wrap (4 * (j : Int)) = 4 * j := by simp [IntKind.wrap, IntKind.signed, IntKind.bits]; omega
      have hj34 : j ≤ 61 := by omega
      have hjlt : j < n + k + 2 := by omega
      have hlen : (((n + k + 2 : Nat) : Int) != (n : Int) + k + 2) = false := by simp
      have ho5 := ownsRow_below ho hb15
      have hI05 : IRow w5 wc.heap.size A0 c0 n lab := ownsRow_below hI0 hb15
      clear hLn hLk hP1 hP2
      have c3 : w5.cell? ⟨g, 3, none⟩ = some (.slice A1 (k + 2) c1) := ho5.cellAt 3 (by omega)
      have f3 : w5.frozen? ⟨g, 3, none⟩ = false := ho5.frozenAt 3
      have gg5 : g < w5.heap.size := by have := hb15.size; omega
      go_upto_region 18 with fail
      go_quiet (fail)
      go_upto_region 21 with fail
      have c3' : (w5.drewN nq).cell? ⟨g, 3, none⟩ = some (.slice A1 (k + 2) c1) := c3
      have f3' : (w5.drewN nq).frozen? ⟨g, 3, none⟩ = false := f3
      have gg6 : g < (w5.drewN nq).heap.size := gg5
      have ho6 : (w5.drewN nq).ownsRow wc.heap.size 66 2 (.slice (some ⟨g, 0, none⟩) 2 cv) 2 [.string nA, .slice A0 (n + 2) c0, .string nB, .slice A1 (k + 2) c1] := ho5
      have hI06 : IRow (w5.drewN nq) wc.heap.size A0 c0 n lab := hI05
      have hbw6 : Below wc.heap.size wc (w5.drewN nq) := below_drewN hbw5 nq
      generalize w5.drewN nq = w6 at *
      clear c3 f3 ho5 hI05 hbw5 p0 p1 hX0 hc1' hc2 hR5
      go_upto_region 22 with fail
      have hS := ho6.stored 3 (.slice (some ⟨w6.heap.size, 0, none⟩) 1 1)
      have hzS : (w6.setCell ⟨g, 3, none⟩ (.slice (some ⟨w6.heap.size, 0, none⟩) 1 1)).heap.size = w6.heap.size := by simp [World.setCell]
      obtain ⟨x1, x2, x3⟩ := one_allocL (w6.setCell ⟨g, 3, none⟩ (.slice (some ⟨w6.heap.size, 0, none⟩) 1 1)) #[.int .i64 7, .int .i64 0, .int .i64 0, .int .i64 0, .int .i64 0, .int .i64 0, .string lab, .int .u32 0] 57
      have hI07 : IRow ((w6.setCell ⟨g, 3, none⟩ (.slice (some ⟨w6.heap.size, 0, none⟩) 1 1)).alloc (.cells #[.int .i64 7, .int .i64 0, .int .i64 0, .int .i64 0, .int .i64 0, .int .i64 0, .string lab, .int .u32 0] 57)) wc.heap.size A0 c0 n lab := World.ownsRow.alloc (ownsRow_other hI06 ho6 (by decide) hS.2) _
      have hbw7 : Below wc.heap.size wc ((w6.setCell ⟨g, 3, none⟩ (.slice (some ⟨w6.heap.size, 0, none⟩) 1 1)).alloc (.cells #[.int .i64 7, .int .i64 0, .int .i64 0, .int .i64 0, .int .i64 0, .int .i64 0, .string lab, .int .u32 0] 57)) := (hbw6.setCell (p := ⟨g, 3, none⟩) hg0 _).trans (x2.mono (by rw [hzS]; exact hbw6.size))
      have ho7 := hS.1.alloc (.cells #[.int .i64 7, .int .i64 0, .int .i64 0, .int .i64 0, .int .i64 0, .int .i64 0, .string lab, .int .u32 0] 57)
      rw [hzS] at x1 x3
      simp only [List.set_cons_succ, List.set_cons_zero] at ho7
      generalize ((w6.setCell ⟨g, 3, none⟩ (.slice (some ⟨w6.heap.size, 0, none⟩) 1 1)).alloc (.cells #[.int .i64 7, .int .i64 0, .int .i64 0, .int .i64 0, .int .i64 0, .int .i64 0, .string lab, .int .u32 0] 57)) = w7 at *
      have hx7 := x1
      have g7 : w6.heap.size < w7.heap.size := by omega
      have hR7 : Items w7 w7.heap.size (some ⟨w6.heap.size, 0, none⟩) [refI lab] := Items.lit hx7 rfl g7 (by simp [refI])
      have hlk := link_Y s n
      rw [HL.out] at hlk
      have hnm : ∀ q ∈ [(⟨nA, itsO n lab⟩ : S.Obj), ⟨nB, [refI lab]⟩], q.name.size ≤ 1 ∧ ∀ y ∈ q.items, y.label.size ≤ 21 := by
        intro q hq
        simp only [List.mem_cons, List.not_mem_nil, or_false] at hq
        rcases hq with rfl | rfl
        · exact ⟨Nat.le_refl _, fun y hy => by have := itsO_lab hy; omega⟩
        · refine ⟨Nat.le_refl _, fun y hy => ?_⟩
          rw [List.mem_singleton.1 hy]
          show lab.size ≤ 21
          omega
      obtain ⟨nm1, nm2⟩ := own_facts hnm
      have hO := Objs.of_row2 (a := ⟨nA, itsO n lab⟩) (o := ⟨nB, [refI lab]⟩) ho7 (Items.of_own hI07 (itsO_words (by omega) _)) hR7 nm1 rfl rfl (itsO_len n lab).symm rfl
      have hjl : (S.joined [(⟨nA, itsO n lab⟩ : S.Obj), ⟨nB, [refI lab]⟩]).length ≤ 1048576 := by simp [S.joined, S.itemsOf, itsO_len]; omega
      have hcall : Calls Try.prog 26 #[.slice (some ⟨g, 0, none⟩) 2 cv, .int .i64 0] w7 (Linked [⟨nA, itsO n lab⟩, ⟨nB, [refI lab]⟩] 0 w7) := link_Link _ _ _ _ _ hO (by simp) hjl nm2
      have Hcall := Lib.hid hcall
      have Hlk := Lib.hid hlk
      clear hcall hlk hnm nm1 nm2 hO hjl hzS x1 x2 x3 hx7
      go_wp2_with fail
      refine Hcall.out.mono ?_
      rintro e w8 ⟨vo8, vp8, r8, L8, P8, rfl, hres, ho8, hp8, hb8⟩
      obtain ⟨e0, eL, eP⟩ := linkRes_fun Hlk.out hres
      subst e0 eL eP
      clear hres Hcall Hlk
      obtain ⟨Ao8, co8, rfl⟩ := ownsRow_form ho8
      obtain ⟨Ap8, cp8, rfl⟩ := ownsRow_form hp8
      have hb78 : Below wc.heap.size wc w8 := hbw7.trans (hb8.mono hbw7.size)
      clear ho8 hp8
      go_wp2_with fail
      refine (law4_works _).mono ?_
      rintro e w9 ⟨rfl, hb9⟩
      go_wp2_with fail
      go_ret
      have hbw8 : Below w.heap.size w w8 := hbb.trans (hb78.mono (Nat.le_of_lt gb))
      refine ⟨rfl, ?_⟩
      have hb89 := ((Below.refl w8.heap.size w8).alloc (Nat.le_refl _) (.cells #[.slice Ao8 0 co8, .slice Ap8 0 cp8] 51)).trans (hb9.mono (by simp))
      exact hbw8.trans (hb89.mono hbw8.size)

end Go.Proofs.Ytbgdomnalimjnaa
