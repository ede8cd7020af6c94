/- The names of operations in the document: walk of pennantref01.Name. -/
import Derived.Test.YtjhchgbeglhoaaaDoorIName
import Derived.Lib.SmallJoins
import Derived.Lib.Strings
set_option linter.unusedVariables false
set_option linter.unusedSimpArgs false
set_option linter.unusedSectionVars false
namespace Go.Proofs.YtjhchgbeglhoaaaDoor
open Go.RowKit

def refNames : List UInt8 := [97, 100, 100, 32, 115, 117, 98, 32, 109, 117, 108, 32, 109, 117, 108, 104, 32, 100, 105, 118, 32, 114, 101, 109, 32, 97, 110, 100, 32, 111, 114, 32, 120, 111, 114, 32, 115, 108, 108, 32, 115, 114, 108, 32, 115, 114, 97, 32, 115, 108, 116, 32, 115, 108, 116, 117, 32, 97, 100, 100, 105, 32, 97, 110, 100, 105, 32, 111, 114, 105, 32, 120, 111, 114, 105, 32, 115, 108, 108, 105, 32, 115, 114, 108, 105, 32, 115, 114, 97, 105, 32, 115, 108, 116, 105, 32, 108, 117, 105, 32, 108, 119, 32, 115, 119, 32, 98, 101, 113, 32, 98, 110, 101, 32, 98, 108, 116, 32, 98, 103, 101, 32, 98, 108, 116, 117, 32, 98, 103, 101, 117, 32, 106, 97, 108, 32, 106, 97, 108, 114, 32, 105, 110, 32, 111, 117, 116, 32, 104, 97, 108, 116, 32]
/-- What the loop holds behind i signs: the number of the word, and what of it was read. -/
def scanN (l : List UInt8) : Nat → Int × List UInt8
  | 0 => (1, [])
  | i + 1 => if l[i]? = some 32 then ((scanN l i).1 + 1, []) else ((scanN l i).1, (scanN l i).2 ++ [l.getD i 0])

theorem ref_Names (w : World) : Calls Tryd.prog 30 #[] w fun e w' => (∃ s : ByteArray, s ++ ⟨#[32]⟩ = ⟨refNames.toArray⟩ ∧ s.size = 152 ∧ e = .returned (.string s)) ∧ w = w' := by
  go_enter Tryd.func30, Tryd.ntmps30
  go_wp2_with fail
  go_ret
  exact ⟨⟨_, by kernel_rfl, by kernel_rfl, rfl⟩, rfl⟩

theorem scan_len (l : List UInt8) : ∀ i, (scanN l i).2.length ≤ i
  | 0 => Nat.le_refl _
  | i + 1 => by
    have h := scan_len l i
    show (if l[i]? = some 32 then ((scanN l i).1 + 1, ([] : List UInt8)) else ((scanN l i).1, (scanN l i).2 ++ [l.getD i 0])).2.length ≤ i + 1
    split
    · simp
    · simp; omega
theorem app_one (l : List UInt8) (s : ByteArray) (i : Nat) (hi : i < s.size) (b : UInt8) (hb : s[i] = b) : (⟨l.toArray⟩ : ByteArray) ++ s.extract i (i + 1) = ⟨(l ++ [b]).toArray⟩ := by
  subst hb
  apply ByteArray.ext
  apply Array.toList_inj.1
  rw [Go.Joins.data_append, Lib.extract_data]
  have hl : i < s.data.toList.length := by simpa using hi
  have e : (s.data.toList.drop i).take (i + 1 - i) = [s[i]] := by
    rw [show i + 1 - i = 1 by omega, List.drop_eq_getElem_cons hl]
    rfl
  rw [e]
theorem scan_fact : ∀ i : Fin 153, refNames[i.val]? = some 32 → (scanN refNames i.val).2 = S.nameL (scanN refNames i.val).1 ∧ 1 ≤ (scanN refNames i.val).1 ∧ (scanN refNames i.val).1 ≤ 36 := by decide +kernel
theorem scan_name (i : Nat) (hi : i < 153) (h : refNames[i]? = some 32) : (scanN refNames i).2 = S.nameL (scanN refNames i).1 ∧ 1 ≤ (scanN refNames i).1 ∧ (scanN refNames i).1 ≤ 36 := scan_fact ⟨i, hi⟩ h
theorem scan_all : ∀ k : Fin 37, 1 ≤ k.val → ∃ i : Fin 153, refNames[i.val]? = some 32 ∧ (scanN refNames i.val).1 = k.val := by decide +kernel

set_option maxRecDepth 100000 in
set_option maxHeartbeats 1000000 in
theorem ref_Name (op : Int) (w : World) : Calls Tryd.prog 14 #[.int .i64 op] w fun e w' => e = .returned (.string ⟨(S.nameL op).toArray⟩) ∧ w = w' := by
  go_enter Tryd.func14, Tryd.ntmps14
  go_wp2_with fail
  refine (ref_Names w).mono ?_
  rintro e w2 ⟨⟨s, hs, hs5, rfl⟩, rfl⟩
  go_upto_region 2 with fail
  try rw [hs]
  obtain ⟨S0, hS0⟩ : ∃ S0 : ByteArray, S0 = ⟨refNames.toArray⟩ := ⟨_, rfl⟩
  rw [← hS0]
  have hsz : S0.size = 153 := by rw [hS0]; rfl
  have HS0 := Lib.hid hS0
  clear hs hS0
  go_wp2_with fail
  go_loopw [4, 5, 6] (fun v4 v5 v6 wr => ∃ i : Nat, i ≤ 153 ∧ v6 = .int .i64 i ∧ v4 = .int .i64 (scanN refNames i).1 ∧ v5 = .string ⟨(scanN refNames i).2.toArray⟩ ∧ (∀ j < i, refNames[j]? = some 32 → (scanN refNames j).1 ≠ op) ∧ wr = w) (fun _ _ v6 _ => 153 - (intOf v6).toNat)
  case atStart => exact ⟨0, by omega, rfl, rfl, rfl, fun j hj => by omega, rfl⟩
  case round =>
    obtain ⟨i, hi, rfl, rfl, rfl, hno, rfl⟩ := hrel
    have Hno := Lib.hid hno
    clear hno
    by_cases hlt : i < 153
    · have hgi : S0[i]'(by omega) = refNames.getD i 0 := by
        have h := HS0.out
        subst h
        have hl : i < refNames.length := hlt
        show refNames.toArray[i]'(by simpa using hl) = _
        simp [hl]
      by_cases hsp : refNames[i]? = some 32
      · have hb : refNames.getD i 0 = 32 := by simp [hsp]
        have d0 : (((S0[i]'(by omega)).toNat : Int) != 32) = false := by rw [hgi, hb]; rfl
        obtain ⟨nm, n1, n2⟩ := scan_name i hlt hsp
        have Hsp := Lib.hid hsp
        have Hnm := Lib.hid nm
        have Hnx := Lib.hid (show scanN refNames (i + 1) = ((scanN refNames i).1 + 1, []) by show (if refNames[i]? = some 32 then _ else _) = _; rw [if_pos hsp])
        clear hgi hb nm hsp
        have Hn1 : Hid (∃ n, n = (scanN refNames i).1) := Lib.hid ⟨_, rfl⟩
        obtain ⟨n, hn1⟩ := Hn1.out
        rw [← hn1] at n1 n2 Hnm Hnx ⊢
        have Hn1 := Lib.hid hn1.symm
        clear hn1
        by_cases hop : n = op
        · have d1 : (n == op) = true := by simp [hop]
          have Hop := Lib.hid hop
          clear hop
          go_wp2_with fail
          go_ret
          refine ⟨?_, rfl⟩
          rw [← Hop.out, ← Hnm.out]
          rfl
        · have d1 : (n == op) = false := by simp [hop]
          have Hop := Lib.hid hop
          clear hop
          go_wp2_with fail
          go_roundw
          case rel =>
            refine ⟨i + 1, by omega, by go_num, by rw [Hnx.out], by rw [Hnx.out], fun j hj hl => ?_, by first | trivial | rfl⟩
            by_cases hji : j = i
            · subst hji
              rw [Hn1.out]
              exact Hop.out
            · exact Hno.out j (by omega) hl
          case measure =>
            simp only [intOf]
            omega
      · have hb : refNames.getD i 0 ≠ 32 := fun e => hsp (by
          have hl : i < refNames.length := hlt
          rw [List.getElem?_eq_getElem hl]
          simpa [hl] using e)
        have d0 : (((S0[i]'(by omega)).toNat : Int) != 32) = true := by
          rw [hgi]
          have : (refNames.getD i 0).toNat ≠ 32 := fun e => hb (UInt8.toNat_inj.1 (by rw [e]; rfl))
          exact bne_iff_ne.2 (fun e => this (by omega))
        have Hnx := Lib.hid (show scanN refNames (i + 1) = ((scanN refNames i).1, (scanN refNames i).2 ++ [refNames.getD i 0]) by show (if refNames[i]? = some 32 then _ else _) = _; rw [if_neg hsp])
        have Hgi := Lib.hid hgi
        have Hsp := Lib.hid hsp
        have hwl := scan_len refNames i
        have Hap : Hid (∀ l : List UInt8, (⟨l.toArray⟩ : ByteArray) ++ S0.extract i (i + 1) = ⟨(l ++ [refNames.getD i 0]).toArray⟩) := Lib.hid (fun l => app_one l S0 i (by omega) _ hgi)
        clear hgi hb hsp
        generalize (scanN refNames i).1 = n at *
        generalize (scanN refNames i).2 = wd at *
        go_wp2_with fail
        go_roundw
        case rel =>
          refine ⟨i + 1, by omega, by go_num, by rw [Hnx.out], by rw [Hnx.out, Hap.out], fun j hj hl => ?_, by first | trivial | rfl⟩
          by_cases hji : j = i
          · subst hji
            exact absurd hl Hsp.out
          · exact Hno.out j (by omega) hl
        case measure =>
          simp only [intOf]
          omega
    · have hie : i = 153 := by omega
      have hnm : S.nameL op = [] := by
        by_cases ho : 1 ≤ op ∧ op ≤ 36
        · obtain ⟨⟨j, hj⟩, h1, h2⟩ := scan_all ⟨op.toNat, by omega⟩ (by show 1 ≤ op.toNat; omega)
          exact absurd (h2.trans (by show ((op.toNat : Nat) : Int) = op; omega)) (Hno.out j (by omega) h1)
        · by_cases h0 : op = 0
          · subst h0; rfl
          · unfold S.nameL; rw [if_neg (by omega)]
      have Hnm := Lib.hid hnm
      clear hnm
      go_wp2_with fail
      go_ret
      exact ⟨by rw [Hnm.out]; rfl, rfl⟩

end Go.Proofs.YtjhchgbeglhoaaaDoor
