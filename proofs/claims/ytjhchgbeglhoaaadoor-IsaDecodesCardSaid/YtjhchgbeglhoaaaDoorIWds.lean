/- A text's words in the document: walk of pennantref01.Words. -/
import Derived.Test.YtjhchgbeglhoaaaDoorINum
import Derived.Test.YtjhchgbeglhoaaaDoorIRTxt
set_option linter.unusedVariables false
set_option linter.unusedSimpArgs false
set_option linter.unusedSectionVars false
namespace Go.Proofs.YtjhchgbeglhoaaaDoor
open Go.RowKit

/-- Words read so far, and what is read of the next. -/
def wStep (p : List (List UInt8) × List UInt8) (c : UInt8) : List (List UInt8) × List UInt8 := if c = 32 then (p.1 ++ [p.2], []) else (p.1, p.2 ++ [c])
def wAt (l : List UInt8) (i : Nat) : List (List UInt8) × List UInt8 := (l.take i).foldl wStep ([], [])
theorem wAt_zero (l : List UInt8) : wAt l 0 = ([], []) := rfl
theorem wAt_succ (l : List UInt8) (i : Nat) (h : i < l.length) : wAt l (i + 1) = wStep (wAt l i) l[i] := by
  unfold wAt
  rw [List.take_succ_eq_append_getElem h, List.foldl_append]
  rfl
theorem wFold (s : List UInt8) : ∀ (acc : List (List UInt8)) (cur : List UInt8), (s.foldl wStep (acc, cur)).1 ++ [(s.foldl wStep (acc, cur)).2] = acc ++ (cur ++ (S.words s).headD []) :: (S.words s).tail := by
  induction s with
  | nil => intro acc cur; simp [S.words]
  | cons c r ih =>
    intro acc cur
    simp only [List.foldl_cons, S.words]
    by_cases h : c = 32
    · have e : wStep (acc, cur) c = (acc ++ [cur], []) := by unfold wStep; rw [if_pos h]
      rw [e, ih, if_pos h]
      have hne := words_ne r
      cases hw : S.words r with
      | nil => exact absurd hw hne
      | cons a t => simp
    · have e : wStep (acc, cur) c = (acc, cur ++ [c]) := by unfold wStep; rw [if_neg h]
      rw [e, ih, if_neg h]
      have hne := words_ne r
      cases hw : S.words r with
      | nil => exact absurd hw hne
      | cons a t => simp
theorem wAt_end (l : List UInt8) : (wAt l l.length).1 ++ [(wAt l l.length).2] = S.words l := by
  unfold wAt
  rw [List.take_length, wFold]
  have hne := words_ne l
  cases hw : S.words l with
  | nil => exact absurd hw hne
  | cons a t => simp
theorem wAt_len (l : List UInt8) : ∀ i, i ≤ l.length → (wAt l i).1.length + (wAt l i).2.length ≤ i
  | 0, _ => by simp [wAt]
  | i + 1, h => by
    have ih := wAt_len l i (by omega)
    rw [wAt_succ l i (by omega)]
    unfold wStep
    split
    · simp; omega
    · simp; omega

def strsV (l : List (List UInt8)) : List Value := l.map fun s => Value.string ⟨s.toArray⟩
theorem str_info : (Tryd.prog.info? 9).map (fun i => (i.zero, i.size, i.bytes)) = some (some (.string ⟨#[]⟩), 1, 16) := by kernel_rfl

/-- A list of texts that the call has made. -/
def StrsAt (base : Nat) (ws : List (List UInt8)) (v : Value) (w : World) : Prop := ∃ A c, v = .slice A ws.length c ∧ w.ownsRow base 9 1 v ws.length (strsV ws)

set_option maxRecDepth 100000 in
set_option maxHeartbeats 1000000 in
theorem ref_Words (s : ByteArray) (hs : s.size ≤ 1000) (w : World) : Calls Tryd.prog 51 #[.string s] w fun e w' => ∃ v, e = .returned v ∧ StrsAt w.heap.size (S.words s.data.toList) v w' ∧ Below w.heap.size w w' := by
  obtain ⟨l, hl⟩ : ∃ l, l = s.data.toList := ⟨_, rfl⟩
  have hsz : s.size = l.length := by rw [hl]; simp
  have hget : ∀ i (hi : i < s.size), s[i] = l.getD i 0 := fun i hi => by
    subst hl
    have h2 : i < s.data.toList.length := by simpa using hi
    rw [List.getD_eq_getElem?_getD, List.getElem?_eq_getElem h2]
    rfl
  rw [← hl]
  have Hget := Lib.hid hget
  clear hget hl
  go_enter Tryd.func51, Tryd.ntmps51
  go_wp2_with fail
  go_loopw [3, 4, 5] (fun v3 v4 v5 wr => ∃ i : Nat, i ≤ l.length ∧ v5 = .int .i64 i ∧ v4 = .string ⟨(wAt l i).2.toArray⟩ ∧ wr.ownsRow w.heap.size 9 1 v3 (wAt l i).1.length (strsV (wAt l i).1) ∧ Below w.heap.size w wr) (fun _ _ v5 _ => l.length - (intOf v5).toNat)
  case atStart => exact ⟨0, by omega, rfl, rfl, ⟨rfl, .inl ⟨rfl, rfl⟩⟩, Below.refl _ _⟩
  case round =>
    obtain ⟨i, hi, rfl, rfl, hown, hbel⟩ := hrel
    have hll := wAt_len l i hi
    have hbs := hbel.size
    by_cases hlt : i < l.length
    · have hi2 : i < s.size := by omega
      have hg := Hget.out i hi2
      have hgl : l.getD i 0 = l[i] := by simp [hlt]
      have hsu := wAt_succ l i hlt
      by_cases hsp : l[i] = 32
      · have d0 : (((s[i]'hi2).toNat : Int) == 32) = true := by rw [hg, hgl, hsp]; rfl
        have He := Lib.hid (show wAt l (i + 1) = ((wAt l i).1 ++ [(wAt l i).2], []) by rw [hsu]; unfold wStep; rw [if_pos hsp])
        clear hg hgl hsu hsp
        generalize (wAt l i).1 = ws at *
        generalize (wAt l i).2 = cur at *
        go_wp2_with (at_builtin
                     refine wpList_push rfl (.tmp 16) (.tmp 18) _ rfl w.heap.size 9 str_info Tryd.underlying70 rfl (by decide) #[.string ⟨cur.toArray⟩] _ _ _ rfl hown rfl rfl rfl (by simp [Value.oneCell']) (by simp only [maxLen]; omega) (by omega) hbs ?_
                     intro v' w' hown1 hg1 hb1 hat1)
        go_roundw
        case rel =>
          refine ⟨i + 1, by omega, by go_num, by rw [He.out], ?_, hbel.trans hb1⟩
          rw [He.out]
          simpa [strsV] using hown1
        case measure =>
          simp only [intOf]
          omega
      · have hb : (l[i]).toNat ≠ 32 := fun e => hsp (UInt8.toNat_inj.1 (by rw [e]; rfl))
        have d0 : (((s[i]'hi2).toNat : Int) == 32) = false := by
          rw [hg, hgl]
          exact beq_eq_false_iff_ne.2 (fun e => hb (by omega))
        have He := Lib.hid (show wAt l (i + 1) = ((wAt l i).1, (wAt l i).2 ++ [l[i]]) by rw [hsu]; unfold wStep; rw [if_neg hsp])
        have Hap : Hid (∀ x : List UInt8, (⟨x.toArray⟩ : ByteArray) ++ s.extract i (i + 1) = ⟨(x ++ [l[i]]).toArray⟩) := Lib.hid (fun x => app_one x s i (by omega) _ (hg.trans hgl))
        clear hg hgl hsu hsp hb
        generalize (wAt l i).1 = ws at *
        generalize (wAt l i).2 = cur at *
        go_wp2_with fail
        go_roundw
        case rel =>
          refine ⟨i + 1, by omega, by go_num, by rw [He.out, Hap.out], ?_, hbel⟩
          rw [He.out]
          exact hown
        case measure =>
          simp only [intOf]
          omega
    · have hie : i = l.length := by omega
      have He := Lib.hid (wAt_end l)
      rw [← hie] at He
      generalize (wAt l i).1 = ws at *
      generalize (wAt l i).2 = cur at *
      go_wp2_with (at_builtin
                   refine wpList_push rfl (.tmp 27) (.tmp 29) _ rfl w.heap.size 9 str_info Tryd.underlying70 rfl (by decide) #[.string ⟨cur.toArray⟩] _ _ _ rfl hown rfl rfl rfl (by simp [Value.oneCell']) (by simp only [maxLen]; omega) (by omega) hbs ?_
                   intro v' w' hown1 hg1 hb1 hat1)
      go_ret
      have hn : (S.words l).length = ws.length + 1 := by rw [← He.out]; simp
      have ho : w'.ownsRow w.heap.size 9 1 v' (S.words l).length (strsV (S.words l)) := by
        rw [hn, ← He.out]
        simpa [strsV] using hown1
      refine ⟨_, rfl, ?_, hbel.trans hb1⟩
      rcases ho.2 with ⟨hv, h0⟩ | ⟨g, cap, cu, hv, h1⟩
      · omega
      · exact ⟨_, _, hv, ho⟩

end Go.Proofs.YtjhchgbeglhoaaaDoor
