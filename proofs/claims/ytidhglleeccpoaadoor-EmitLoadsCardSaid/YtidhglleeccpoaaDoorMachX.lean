/- The machine of package mach: walk of New. -/
import Derived.Test.YtidhglleeccpoaaDoorMachW
import Derived.Laws.CopyOwn
set_option linter.unusedVariables false
set_option linter.unusedSimpArgs false
set_option linter.unusedSectionVars false
namespace Go.Proofs.YtidhglleeccpoaaDoor
open Go.RowKit

theorem Reads.moreM {w : World} {B B' : Nat} {A : Option Addr} {xs : List Value} (h : Reads w B A xs) (hB : B ≤ B') : Reads w B' A xs := fun hp => by
  obtain ⟨b, off, e, hb, hc⟩ := h hp
  exact ⟨b, off, e, by omega, hc⟩

/-- The words are laid over the head of a machine's memory. -/
theorem MAt.copied {w : World} {B p : Nat} {vm vo : Value} {A : Option Addr} {c : Nat} {inp : List Int} {rd : Nat} {m : S.Mach} (h : MAt w B p vm vo A c inp rd m) {g cap : Nat} (hv : vm = .slice (some ⟨g, 0, none⟩) m.mem.length cap) {cur : Array Value} (hg : w.heap[g]? = some (.cells cur 22 (0, 0)))
    {L : List Int} (hL : L.length ≤ m.mem.length) (hw : ∀ x ∈ L, 0 ≤ x ∧ x ≤ 4294967295) :
    MAt (w.setRow g (cur.toList.take 0 ++ (L.map (Value.int .u32) ++ cur.toList.drop (0 + (L.map (Value.int .u32)).length))).toArray) B p vm vo A c inp rd { m with mem := L ++ m.mem.drop L.length } := by
  obtain ⟨n1, n2⟩ := h.mem_ne (k := g) (by rw [hv]; rfl)
  have hsame : ∀ j, j ≠ g → (w.setRow g (cur.toList.take 0 ++ (L.map (Value.int .u32) ++ cur.toList.drop (0 + (L.map (Value.int .u32)).length))).toArray).heap[j]? = w.heap[j]? := fun j hj => setRow_other w g j _ hj
  refine ⟨⟨h.ok.regs, h.ok.word, h.ok.zero, by have := h.ok.mem; simp; omega, fun j => ?_, h.ok.place0, h.ok.place1, h.ok.inp, h.ok.outp, h.ok.code0, h.ok.code1⟩, h.low, ?_, ?_, ?_, ?_, h.left, h.rdle, h.inl, by have := h.low0; simp; omega, fun b o s e => by have := h.la b o s e; simpa using this, h.d1, h.d2⟩
  · show 0 ≤ (L ++ m.mem.drop L.length).getD j 0 ∧ (L ++ m.mem.drop L.length).getD j 0 ≤ 4294967295
    by_cases hj : j < L.length
    · have e : (L ++ m.mem.drop L.length).getD j 0 = L[j] := by simp [List.getElem?_append_left hj, List.getElem?_eq_getElem hj]
      rw [e]
      exact hw _ (List.getElem_mem _)
    · have e : (L ++ m.mem.drop L.length).getD j 0 = m.mem.getD j 0 := by
        simp only [List.getD_eq_getElem?_getD]
        rw [List.getElem?_append_right (by omega), List.getElem?_drop, show L.length + (j - L.length) = j by omega]
      rw [e]
      exact h.ok.memw j
  · obtain ⟨cs, h1, h2⟩ := h.blk
    exact ⟨cs, by rw [hsame p (Ne.symm n1)]; exact h1, h2⟩
  · rcases h.mem.2 with ⟨e, _⟩ | ⟨g', cap', cur', e, h3, h4, h5, h6, h7, h8⟩
    · rw [hv] at e; cases e
    · rw [hv] at e
      injection e with e1 e2 e3
      injection e1 with e1
      injection e1 with e1
      subst e1 e3
      rw [hg] at h4
      injection h4 with h4
      injection h4 with h4 _ _
      subst h4
      have hl : (L ++ m.mem.drop L.length).length = m.mem.length := by simp; omega
      refine ⟨by simp, .inr ⟨g, cap, _, by rw [hv, hl], h3, setRow_heap w g cur _ _ _ hg, by rw [hl]; exact h5, h6, ?_, ?_⟩⟩
      · simp; omega
      · simp only [List.take_zero, List.nil_append, Nat.mul_one] at h8 ⊢
        rw [hl, List.take_append, List.take_of_length_le (by simp; omega), List.map_append, List.map_drop, ← h8, List.length_map, Nat.zero_add, List.drop_take]
  · exact ownsRow_same h.out fun j hj => hsame j fun e => n2 (e ▸ hj)
  · exact h.rin.same (by simp) fun b' o s e => hsame b' fun e2 => (h.d1 b' o s e).2.1 (by rw [e2, hv]; rfl)

theorem newAt {w wz : World} {n g c : Nat} {A : Option Addr} {I : List Int} (hn : 1 ≤ n) (hn2 : n ≤ 335544320) (hI : ∀ x ∈ I, 0 ≤ x ∧ x ≤ 255) (hil : I.length ≤ 50) (hb : Below w.heap.size w wz)
    (hg : wz.ownsRow w.heap.size 22 1 (.slice (some ⟨g, 0, none⟩) n n) n (List.replicate n (Value.int .u32 0))) (hA : wz.ownsRow w.heap.size 5 1 (.slice A I.length c) I.length (I.map (Value.int .u8))) :
    MAt (wz.alloc (.cells #[.int .u32 0, .int .u32 0, .int .u32 0, .int .u32 0, .int .u32 0, .int .u32 0, .int .u32 0, .int .u32 0, .int .u32 0, .int .u32 0, .int .u32 0, .int .u32 0, .int .u32 0, .int .u32 0, .int .u32 0, .int .u32 0, .int .u32 0, .int .u32 0, .int .u32 0, .int .u32 0, .int .u32 0, .int .u32 0, .int .u32 0, .int .u32 0, .int .u32 0, .int .u32 0, .int .u32 0, .int .u32 0, .int .u32 0, .int .u32 0, .int .u32 0, .int .u32 0, .slice (some ⟨g, 0, none⟩) n n, .int .u32 0, .slice A I.length c, .int .i64 0, .slice none 0 0, .int .i64 0, .int .u32 0, .int .i64 0, .int .i64 0] 73)) w.heap.size wz.heap.size (.slice (some ⟨g, 0, none⟩) n n) (.slice none 0 0) A c I 0 (newM [] n I) ∧ Below w.heap.size w (wz.alloc (.cells #[.int .u32 0, .int .u32 0, .int .u32 0, .int .u32 0, .int .u32 0, .int .u32 0, .int .u32 0, .int .u32 0, .int .u32 0, .int .u32 0, .int .u32 0, .int .u32 0, .int .u32 0, .int .u32 0, .int .u32 0, .int .u32 0, .int .u32 0, .int .u32 0, .int .u32 0, .int .u32 0, .int .u32 0, .int .u32 0, .int .u32 0, .int .u32 0, .int .u32 0, .int .u32 0, .int .u32 0, .int .u32 0, .int .u32 0, .int .u32 0, .int .u32 0, .int .u32 0, .slice (some ⟨g, 0, none⟩) n n, .int .u32 0, .slice A I.length c, .int .i64 0, .slice none 0 0, .int .i64 0, .int .u32 0, .int .i64 0, .int .i64 0] 73)) ∧ (∀ b o s, A = some ⟨b, o, s⟩ → w.heap.size ≤ b) := by
  obtain ⟨x1, x2, x3⟩ := one_allocM wz #[.int .u32 0, .int .u32 0, .int .u32 0, .int .u32 0, .int .u32 0, .int .u32 0, .int .u32 0, .int .u32 0, .int .u32 0, .int .u32 0, .int .u32 0, .int .u32 0, .int .u32 0, .int .u32 0, .int .u32 0, .int .u32 0, .int .u32 0, .int .u32 0, .int .u32 0, .int .u32 0, .int .u32 0, .int .u32 0, .int .u32 0, .int .u32 0, .int .u32 0, .int .u32 0, .int .u32 0, .int .u32 0, .int .u32 0, .int .u32 0, .int .u32 0, .int .u32 0, .slice (some ⟨g, 0, none⟩) n n, .int .u32 0, .slice A I.length c, .int .i64 0, .slice none 0 0, .int .i64 0, .int .u32 0, .int .i64 0, .int .i64 0] 73
  have hgl := hg.lt g rfl
  have hAl : ∀ b o s, A = some ⟨b, o, s⟩ → w.heap.size ≤ b ∧ b < wz.heap.size := fun b o s e => hA.lt b (by rw [e]; rfl)
  have hmem : (newM [] n I).mem = List.replicate n 0 := by simp [newM]
  have hne := rows_ne hA hg (by decide)
  refine ⟨⟨newM_ok hn (by simp) (fun x hx => by cases hx) hI, hb.size, ⟨_, x1, rfl⟩, ?_, World.ownsRow_nil _ _ _ _, ?_, by simp [newM], Nat.zero_le _, by omega, by rw [hmem]; simp; omega, fun b o s e => by have := hAl b o s e; omega, fun b o s e => ?_, ?_⟩, hb.trans (x2.mono hb.size), fun b o s e => (hAl b o s e).1⟩
  · rw [hmem, List.map_replicate, List.length_replicate]
    exact ownsRow_below hg x2
  · exact Reads.of_own (ownsRow_below hA x2)
  · have h1 := hAl b o s e
    refine ⟨by omega, fun q => ?_, fun q => by cases q⟩
    have q2 : g = b := by injection q
    subst q2
    rcases hne with q | q
    · rw [e] at q; cases q
    · exact q (by rw [e]; rfl)
  · refine ⟨fun q => ?_, fun q => by cases q⟩
    have q2 : g = wz.heap.size := by injection q
    omega

theorem u32_sizeM : (Tryd.prog.info? 22).map (·.size) = some 1 := by kernel_rfl
theorem made_zeros (n : Nat) : (madeCells (Value.int .u32 0).cells (n * 1)).toList = List.replicate n (Value.int .u32 0) := by
  rw [Nat.mul_one]
  exact toList_madeCells_one _ n

def MNewPost (w : World) (n : Nat) (size : Int) (I : List Int) (m : S.Mach) (e : Ending) (w' : World) : Prop :=
  (¬ sizeOk n size ∧ e = .returned (.tuple #[.pointer none, .int .i64 2]) ∧ w = w') ∨
  (sizeOk n size ∧ ∃ p vm A c, e = .returned (.tuple #[.pointer (some ⟨p, 0, none⟩), .int .i64 0]) ∧ MAt w' w.heap.size p vm (.slice none 0 0) A c I 0 m ∧ Below w.heap.size w w' ∧ ∀ b o s, A = some ⟨b, o, s⟩ → w.heap.size ≤ b)

set_option maxRecDepth 100000 in
set_option maxHeartbeats 8000000 in
theorem mach_New (Aw Ai : Option Addr) (cw ci : Nat) (L I : List Int) (size : Int) (w : World) (hL : Reads w w.heap.size Aw (L.map (Value.int .u32))) (hI : Reads w w.heap.size Ai (I.map (Value.int .u8))) (hl : L.length ≤ 200) (hil : I.length ≤ 50)
    (hLw : ∀ x ∈ L, 0 ≤ x ∧ x ≤ 4294967295) (hIw : ∀ x ∈ I, 0 ≤ x ∧ x ≤ 255) :
    Calls Tryd.prog 6 #[.slice Aw L.length cw, .int .i64 size, .slice Ai I.length ci] w (MNewPost w L.length size I (newM L size.toNat I)) := by
  have HLw := Lib.hid hLw
  have HIw := Lib.hid hIw
  clear hLw hIw
  by_cases h1 : size < 1
  · have Hn := Lib.hid (show ¬ sizeOk L.length size from fun q => by have := q.1; omega)
    go_enter Tryd.func6, Tryd.ntmps6
    go_wp2_with fail
    go_ret2
    exact .inl ⟨Hn.out, rfl, rfl⟩
  by_cases h2 : 335544320 < size
  · have Hn := Lib.hid (show ¬ sizeOk L.length size from fun q => by have := q.2.1; omega)
    go_enter Tryd.func6, Tryd.ntmps6
    go_wp2_with fail
    go_ret2
    exact .inl ⟨Hn.out, rfl, rfl⟩
  by_cases h3 : size < L.length
  · have Hn := Lib.hid (show ¬ sizeOk L.length size from fun q => by have := q.2.2; omega)
    go_enter Tryd.func6, Tryd.ntmps6
    go_wp2_with fail
    go_ret2
    exact .inl ⟨Hn.out, rfl, rfl⟩
  obtain ⟨n, rfl⟩ : ∃ n : Nat, size = n := ⟨size.toNat, by omega⟩
  have Hok := Lib.hid (show sizeOk L.length n from ⟨by omega, by omega, by omega⟩)
  have HL := Lib.hid hL
  have hn1 : 1 ≤ n := by omega
  have hn2 : n ≤ 335544320 := by omega
  have hnL : L.length ≤ n := by omega
  go_enter Tryd.func6, Tryd.ntmps6
  go_upto_region 3 with fail
  go_cut [8] (fun v8 wc => ∃ p g A c, v8 = .pointer (some ⟨p, 0, none⟩) ∧ MAt wc w.heap.size p (.slice (some ⟨g, 0, none⟩) n n) (.slice none 0 0) A c I 0 (newM [] n I) ∧ Below w.heap.size w wc ∧ ∀ b o s, A = some ⟨b, o, s⟩ → w.heap.size ≤ b)
  case first =>
    have hId : Below w.heap.size w w.drew := (Below.refl _ _).drew
    obtain ⟨ti, hti, htz, hts, htb⟩ := info_parts (u32_infoM)
    go_region_with (first
      | (go_at_call 20; refine (clone_bytes Ai ci I w.drew hI (by omega)).mono ?_; rintro e w2 ⟨A2, c2, rfl, ho2, hb2⟩)
      | (go_at_call 20; have hb3 : Below w.heap.size w w3 := hId.grown hg3 (Nat.le_refl _) (fun k e => by cases e); refine (clone_bytes Ai ci I w3 ((hI.below hb3).moreM hb3.size) (by omega)).mono ?_; rintro e w5 ⟨A5, c5, rfl, ho5, hb5⟩)
      | (obtain ⟨w3, hrun, ho3, hg3⟩ := run_make_full (P := Tryd.prog) w2 w2.heap.size 35 22 ti _ 1 Tryd.underlying35 hti htz hts .i64 .i64 n (by rw [htb]; omega) (by simp only [maxLen]; omega) (Nat.le_refl _); simp only [hrun]; clear htb)
      | (obtain ⟨w3, hrun, ho3, hg3⟩ := run_make_full (P := Tryd.prog) w.drew w.drew.heap.size 35 22 ti _ 1 Tryd.underlying35 hti htz hts .i64 .i64 n (by rw [htb]; omega) (by simp only [maxLen]; omega) (Nat.le_refl _); simp only [hrun]; clear htb))
    · simp only [List.getElem_toArray, List.getElem_cons_succ, List.getElem_cons_zero, Act.put, List.setIfInBounds_toArray, List.set_cons_succ, List.set_cons_zero]
      have hb3 : Below w.heap.size w w3 := hId.grown hg3 (Nat.le_refl _) (fun k e => by cases e)
      have hbz : Below w.heap.size w w5 := hb3.trans (hb5.mono hb3.size)
      have hrow : w5.ownsRow w.heap.size 22 1 (.slice (some ⟨w.heap.size, 0, none⟩) n n) n (List.replicate n (Value.int .u32 0)) := by
        have h := ownsRow_below ho3 hb5
        rwa [made_zeros] at h
      have hZ := Lib.hid (newAt (w := w) hn1 hn2 HIw.out hil hbz hrow (ownsRow_base ho5 hb3.size))
      clear hrun ho3 hg3 ho5 hb5 hb3 hbz hrow
      go_wp2_with fail
      go_meet
      refine ⟨w5.heap.size, w.heap.size, A5, c5, by kernel_rfl, ?_⟩
      with_reducible exact hZ.out
    · simp only [List.getElem_toArray, List.getElem_cons_succ, List.getElem_cons_zero, Act.put, List.setIfInBounds_toArray, List.set_cons_succ, List.set_cons_zero]
      have hb2' : Below w.heap.size w w2 := hId.trans hb2
      have hb3 : Below w.heap.size w w3 := hb2'.grown hg3 hb2'.size (fun k e => by cases e)
      have hrow : w3.ownsRow w.heap.size 22 1 (.slice (some ⟨w2.heap.size, 0, none⟩) n n) n (List.replicate n (Value.int .u32 0)) := by
        have h := ownsRow_base ho3 hb2'.size
        rwa [made_zeros] at h
      have hin : w3.ownsRow w.heap.size 5 1 (.slice A2 I.length c2) I.length (I.map (Value.int .u8)) := ownsRow_same (ownsRow_base ho2 (Nat.le_refl _)) fun k hk => hg3.block k (ho2.lt k hk).2 (fun e => by cases e)
      have hZ := Lib.hid (newAt (w := w) hn1 hn2 HIw.out hil hb3 hrow hin)
      clear hrun ho3 hg3 ho2 hb2 hb2' hb3 hrow hin
      go_wp2_with fail
      go_meet
      refine ⟨w3.heap.size, w2.heap.size, A2, c2, by kernel_rfl, ?_⟩
      with_reducible exact hZ.out
  case rest =>
  obtain ⟨p, g, A2, c2, rfl, hM, hbc, hA2⟩ := hcut
  have hmem : (newM [] n I).mem.length = n := by simp [newM]
  obtain ⟨c32, _⟩ := hM.cells
  have hpw := hM.lt
  have hmw := hM.mem
  rw [hmem] at hmw
  obtain ⟨cur, hgr, hcs⟩ : ∃ cur, wc.heap[g]? = some (.cells cur 22 (0, 0)) ∧ n ≤ cur.size := by
    rcases hmw.2 with ⟨e, _⟩ | ⟨g', cap', cur', e, h3, h4, h5, h6, h7, h8⟩
    · cases e
    · injection e with e1 e2 e3
      injection e1 with e1
      injection e1 with e1
      subst e1
      exact ⟨cur', h4, by omega⟩
  have hLc := HL.out.below hbc
  have HM := Lib.hid hM
  have HLc := Lib.hid hLc
  have hend : newM L n I = { newM [] n I with mem := L ++ (newM [] n I).mem.drop L.length } := by
    simp [newM]
  have Hend := Lib.hid hend
  have Hb := Lib.hid hbc
  have HA2 := Lib.hid hA2
  clear hM hLc hmw hend hbc hA2
  by_cases hz : L.length = 0
  · have hnil : L = [] := List.eq_nil_of_length_eq_zero hz
    subst hnil
    go_wp2_with (refine wpList_copy_nothing (o := ⟨some 32, _, _, _, _, _⟩) rfl (.tmp 30) (.tmp 31) _ _ rfl 22 Tryd.underlying35 u32_sizeM (some ⟨g, 0, none⟩) Aw n n 0 cw rfl rfl (by simp) ?_)
    go_ret2
    refine .inr ⟨Hok.out, p, .slice (some ⟨g, 0, none⟩) n n, A2, c2, rfl, ?_, Hb.out, HA2.out⟩
    exact HM.out
  · obtain ⟨bL, oL, e, hbL, hcL⟩ := HLc.out (by simp; omega)
    subst e
    have HcL := Lib.hid hcL
    have Hcp := Lib.hid (HM.out.copied (g := g) (cap := n) (by rw [hmem]) hgr (L := L) (by rw [hmem]; exact hnL) HLw.out)
    have Hgl := Lib.hid (HM.out.foot_lt (show MFoot p (.slice (some ⟨g, 0, none⟩) n n) (.slice none 0 0) g from .inr (.inl rfl))).1
    clear hcL
    go_wp2_with (refine wpList_copy_own (o := ⟨some 32, _, _, _, _, _⟩) rfl (.tmp 30) (.tmp 31) _ _ rfl 22 Tryd.underlying35 u32_sizeM g 0 n n ⟨bL, oL, none⟩ L.length cw rfl rfl cur 22 hgr (L.map (Value.int .u32)) (by rw [List.length_map]; exact (Nat.min_eq_left hnL).symm) (fun j v hj => (by rw [Addr.add_mk]; exact HcL.out j v hj)) (by rw [List.length_map]; omega) (by simp [Value.oneCell']) ?_)
    go_ret2
    refine .inr ⟨Hok.out, p, .slice (some ⟨g, 0, none⟩) n n, A2, c2, rfl, ?_, ?_, HA2.out⟩
    · rw [Hend.out]
      have hc := Hcp.out
      rw [List.take_zero, List.nil_append, Nat.zero_add, List.length_map] at hc
      exact hc
    · exact below_setRow Hb.out Hgl.out _

end Go.Proofs.YtidhglleeccpoaaDoor
