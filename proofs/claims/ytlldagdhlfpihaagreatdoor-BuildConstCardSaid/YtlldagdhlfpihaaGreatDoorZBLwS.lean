/- BAns, BLwS: joined.  Walk of layer 25's start: the code that calls a routine. -/
import Derived.Test.YtlldagdhlfpihaaGreatDoorZBChkI
import Derived.Test.YtlldagdhlfpihaaGreatDoorZMachM
import Derived.Test.YtlldagdhlfpihaaGreatDoorZMachX
import Derived.Test.YtlldagdhlfpihaaGreatDoorZBLwD
section
set_option linter.unusedVariables false
set_option linter.unusedSimpArgs false
set_option linter.unusedSectionVars false
namespace Go.Proofs.YtlldagdhlfpihaaGreatDoor
open Go.RowKit

namespace S
def kStart : ByteArray := ⟨#[115, 116, 97, 114, 116]⟩
def kLink : ByteArray := ⟨#[108, 105, 110, 107]⟩
def kAfter : ByteArray := ⟨#[97, 102, 116, 101, 114]⟩
def bW (w : Int) : Item := ⟨6, ⟨0, 0, 0, 0, 0⟩, bNo, w⟩
def sWords (behind : Bool) : List Item := if behind = true then [bW 2, bW 9, bW 9] else []
/-- The code that calls a routine, and where it comes back to. -/
def sItems (name : ByteArray) (behind : Bool) : List Item := [bL kStart, bJ 31 name, bL kLink] ++ sWords behind ++ [bL kAfter, bI 36 0 0 0 0]
def ansObjs (r : BR) : List Obj := [⟨kStart, sItems r.name r.behind⟩, ⟨r.name, bItems r⟩]
/-- A machine as registers and memory. -/
def viewOf (m : Mach) : Vw := ⟨m.rd, m.mv, m.input, m.out⟩
/-- A machine with an image's words, a stack's place and one number. -/
def ansMach (L : List Int) (n : Int) : Mach := ((newM L 4000 []).put 28 3000).put 4 n
end S

theorem joined_ans (r : S.BR) : S.joined (S.ansObjs r) = (S.sItems r.name r.behind).map (S.ownItem S.kStart) ++ (S.bItems r).map (S.ownItem r.name) := by
  simp [S.joined, S.ansObjs, S.itemsOf]

theorem tells_sItems (name : ByteArray) (behind : Bool) : S.tells (S.sItems name behind) = [S.kStart, S.kLink, S.kAfter] ∧ S.names (S.sItems name behind) = [name] ∧ S.allChk (S.sItems name behind) ∧ S.bulk (S.sItems name behind) ≤ 40 ∧ (S.sItems name behind).length = (if behind = true then 8 else 5) := by
  cases behind
  · refine ⟨rfl, rfl, ?_, by simp [S.sItems, S.sWords, S.bulk, S.bL, S.bJ, S.bI, S.bW], rfl⟩
    exact allChk_cons (chk_bL _) (allChk_cons (chk_bJ _ (by decide)) (allChk_cons (chk_bL _) (allChk_cons (chk_bL _) (allChk_one (chk_bI (good_outB (.inr rfl) (by decide)))))))
  · refine ⟨rfl, rfl, ?_, by simp [S.sItems, S.sWords, S.bulk, S.bL, S.bJ, S.bI, S.bW], rfl⟩
    have hw : ∀ w, S.chkItem (S.bW w) = 0 := fun w => by simp [S.chkItem, S.bW]
    exact allChk_cons (chk_bL _) (allChk_cons (chk_bJ _ (by decide)) (allChk_cons (chk_bL _) (allChk_cons (hw 2) (allChk_cons (hw 9) (allChk_cons (hw 9) (allChk_cons (chk_bL _) (allChk_one (chk_bI (good_outB (.inr rfl) (by decide))))))))))

section
variable {r : S.BR} (hc : S.chkB r = 0) (ht : ([S.kStart, S.kLink, S.kAfter] ++ (S.tells (S.bItems r)).map (S.owned r.name)).Nodup)
  (hm : ∀ s ∈ r.name :: (S.names (S.bItems r)).map (S.owned r.name), s ∈ [S.kStart, S.kLink, S.kAfter] ++ (S.tells (S.bItems r)).map (S.owned r.name)) (hb : S.bulk (S.bItems r) ≤ 2900)
include hc ht hm hb
/-- Such a routine, and what calls it, become an image. -/
theorem ans_res {e : Int} {F : List Int} (h : S.FormsRes (S.joined (S.ansObjs r)) 0 e F) (hw : ∀ x ∈ S.joined (S.ansObjs r), 0 ≤ x.word ∧ x.word ≤ 4294967295) :
    e = 0 ∧ (S.imgOf (S.joined (S.ansObjs r)) F 4000 3000 4000).Ok ∧ S.addr (S.joined (S.ansObjs r)) F 0 (S.joined (S.ansObjs r)).length ≤ 2940 := by
  obtain ⟨h1, h2, h3, h4, h5⟩ := tells_sItems r.name r.behind
  obtain ⟨hn, _⟩ := chkB_parts hc
  have e1 := joined_ans r
  have k1 : S.tells (S.joined (S.ansObjs r)) = [S.kStart, S.kLink, S.kAfter] ++ (S.tells (S.bItems r)).map (S.owned r.name) := by
    rw [e1, tells_append, tells_own, tells_own, h1]
    rfl
  have k2 : S.names (S.joined (S.ansObjs r)) = r.name :: (S.names (S.bItems r)).map (S.owned r.name) := by
    rw [e1, names_append, names_own, names_own, h2]
    show [S.owned S.kStart r.name] ++ _ = _
    rw [owned_no _ hn]
    rfl
  have k3 : S.allChk (S.joined (S.ansObjs r)) := by
    rw [e1]; exact allChk_append (allChk_own h3) (allChk_own (chk_items r hc))
  have k4 : S.bulk (S.joined (S.ansObjs r)) ≤ 2940 := by
    rw [e1, bulk_append, bulk_own, bulk_own]; omega
  obtain ⟨e0, hF, ha⟩ := res_ok h k3 (by rw [k1]; exact ht) (by rw [k2, k1]; exact hm) (by omega)
  subst e0
  exact ⟨rfl, img_ok h hw (by omega) (by omega) (by omega) (by omega) (by omega), by omega⟩
end

theorem seg_ans {r : S.BR} {F : List Int} {size lo hi : Int} : S.Seg (S.imgOf (S.joined (S.ansObjs r)) F size lo hi) r.name (if r.behind = true then 8 else 5) (S.bItems r) := by
  obtain ⟨_, _, _, _, h5⟩ := tells_sItems r.name r.behind
  have e1 := joined_ans r
  have hl : (S.joined (S.ansObjs r)).length = (if r.behind = true then 8 else 5) + (S.bItems r).length := by
    rw [e1, List.length_append, List.length_map, List.length_map, h5]
  refine ⟨fun k x hk => ?_, Nat.zero_le _, by show _ ≤ (S.joined (S.ansObjs r)).length; omega⟩
  show (S.joined (S.ansObjs r))[_]? = _
  rw [e1, List.getElem?_append_right (by rw [List.length_map, h5]; omega), List.length_map, h5, Nat.add_sub_cancel_left, List.getElem?_map, hk]
  rfl

theorem xs_ans {r : S.BR} {F : List Int} {size lo hi : Int} {i : Nat} {x : S.Item} (h : (S.sItems r.name r.behind)[i]? = some x) : (S.imgOf (S.joined (S.ansObjs r)) F size lo hi).xs[i]? = some (S.ownItem S.kStart x) := by
  show (S.joined (S.ansObjs r))[i]? = _
  rw [joined_ans, List.getElem?_append_left (by rw [List.length_map]; exact (List.getElem?_eq_some_iff.1 h).1), List.getElem?_map, h]
  rfl

theorem ansMach_ok {L : List Int} (hL : L.length ≤ 4000) (hw : ∀ x ∈ L, 0 ≤ x ∧ x ≤ 4294967295) {n : Int} (hn : 0 ≤ n ∧ n ≤ 4294967295) : (S.ansMach L n).Ok :=
  putOk (putOk (newM_ok (by decide) hL hw (fun x hx => by cases hx)) (by decide) (by decide)) (by decide) hn
theorem ansMach_mem (L : List Int) (n : Int) : (S.ansMach L n).mem = L ++ List.replicate (4000 - L.length) 0 ∧ (S.ansMach L n).state = 0 ∧ (S.ansMach L n).place = 0 := by
  unfold S.ansMach S.Mach.put
  rw [if_neg (by decide), if_neg (by decide)]
  exact ⟨rfl, rfl, rfl⟩
theorem ansMach_reg (L : List Int) (n : Int) : (S.ansMach L n).rd 28 = 3000 ∧ (S.ansMach L n).rd 4 = n := by
  unfold S.ansMach S.Mach.put
  rw [if_neg (by decide), if_neg (by decide)]
  exact ⟨rfl, rfl⟩
theorem off_end {I : S.Img} {V V' : S.Vw} {a c : Int} {K N : Nat} (h : S.GoH I V a K V' c) (hK : K ≤ N) {m : S.Mach} (hm : S.On I m V a) : S.Off I (m.steps_ N) V' c := by
  obtain ⟨k, hk, ho⟩ := h m hm
  obtain ⟨d, rfl⟩ : ∃ d, N = k + d := ⟨N - k, by omega⟩
  rw [steps_add, steps_still (by rw [ho.end_]; decide)]
  exact ho

/-- What the machine is when the routine came back. -/
theorem ans_run {r : S.BR} (hc : S.chkB r = 0) {F : List Int} (hI : (S.imgOf (S.joined (S.ansObjs r)) F 4000 3000 4000).Ok) (hlen : S.addr (S.joined (S.ansObjs r)) F 0 (S.joined (S.ansObjs r)).length ≤ 2940)
    {L : List Int} (hL : L = S.outTo (S.joined (S.ansObjs r)) F 0 (S.joined (S.ansObjs r)).length) (hw : ∀ x ∈ L, 0 ≤ x ∧ x ≤ 4294967295) {n v : Int} (hn : 0 ≤ n ∧ n ≤ 4294967295) {d : Int} {R : Int → S.BO → Nat → Prop} (hd : d ≤ 1000)
    (hr : S.Real (S.imgOf (S.joined (S.ansObjs r)) F 4000 3000 4000) r.name r.behind (S.viewOf (S.ansMach L n)) d R)
    (hR : ∀ ret o k, R ret o k → ∃ st', o = .ret st' ∧ k ≤ 99000 ∧ st'.reg 4 = v ∧ st'.mem = (S.viewOf (S.ansMach L n)).mem) :
    ((S.ansMach L n).steps_ 100000).state = 1 ∧ ((S.ansMach L n).steps_ 100000).rd 28 = 3000 ∧ ((S.ansMach L n).steps_ 100000).rd 4 = v := by
  obtain ⟨I, hIe⟩ : ∃ I, I = S.imgOf (S.joined (S.ansObjs r)) F 4000 3000 4000 := ⟨_, rfl⟩
  have hxs : ∀ {i : Nat} {x : S.Item}, (S.sItems r.name r.behind)[i]? = some x → I.xs[i]? = some (S.ownItem S.kStart x) := fun h => by rw [hIe]; exact xs_ans h
  have hin : I.In (S.ansMach L n).mem := by
    rw [(ansMach_mem L n).1, hL, hIe]; exact img_in hI _
  have hLl : (L.length : Int) ≤ 2940 := by
    have := outTo_length (base := 0) (img_forms hI) (kinds_ok (img_first hI)) hI.words (S.joined (S.ansObjs r)).length
    rw [hL]
    have e : S.addr (S.joined (S.ansObjs r)) F 0 (S.joined (S.ansObjs r)).length - 0 = S.addr (S.joined (S.ansObjs r)) F 0 (S.joined (S.ansObjs r)).length := by omega
    show ((S.outTo (S.joined (S.ansObjs r)) F 0 (S.joined (S.ansObjs r)).length).length : Int) ≤ _
    have h2 : ((S.outTo (S.joined (S.ansObjs r)) F 0 (S.joined (S.ansObjs r)).length).length : Int) = S.addr (S.joined (S.ansObjs r)) F 0 (S.joined (S.ansObjs r)).length - 0 := this
    omega
  have hok := ansMach_ok (by omega) hw hn (L := L)
  obtain ⟨hmem, hst, hpl⟩ := ansMach_mem L n
  obtain ⟨h28, h4⟩ := ansMach_reg L n
  have hi0 : I.i0 = 0 := by rw [hIe]; rfl
  have hsize : I.size = 4000 := by rw [hIe]; rfl
  have hlo : I.lo = 3000 := by rw [hIe]; rfl
  have hhi : I.hi = 4000 := by rw [hIe]; rfl
  have hi1 : I.i1 = I.xs.length := by rw [hIe]; rfl
  have htop : I.adr I.xs.length ≤ 2940 := by rw [hIe]; exact hlen
  rw [← hIe] at hI hr
  obtain ⟨V, hV⟩ : ∃ V, V = S.viewOf (S.ansMach L n) := ⟨_, rfl⟩
  have hon : S.On I (S.ansMach L n) V 0 := by
    rw [hV]
    refine ⟨hok, hst, ?_, hin, hpl, fun _ _ _ _ => rfl, fun _ _ _ => rfl, rfl, rfl⟩
    rw [hmem, List.length_append, List.length_replicate, hsize]; omega
  rw [← hV] at hr hR
  have hlt : ∀ {i : Nat} {x : S.Item}, I.xs[i]? = some x → i < I.i1 := fun h => by rw [hi1]; exact (List.getElem?_eq_some_iff.1 h).1
  have hadr : ∀ {i : Nat} {x : S.Item}, I.xs[i]? = some x → I.adr i ≤ 2940 := fun h => Int.le_trans (img_le hI (Nat.le_of_lt (List.getElem?_eq_some_iff.1 h).1)) htop
  have hi00 : ∀ i : Nat, I.i0 ≤ i := fun i => by rw [hi0]; exact Nat.zero_le _
  have hnm : S.owned S.kStart r.name = r.name := owned_no _ (chkB_parts hc).1
  have x0 : I.xs[0]? = some (S.ownItem S.kStart (S.bL S.kStart)) := hxs (by rfl)
  have x1 : I.xs[1]? = some ⟨4, ⟨0, 31, 0, 0, 0⟩, r.name, 0⟩ := by
    rw [← hnm]; exact hxs (x := S.bJ 31 r.name) (by rfl)
  have x2 : I.xs[2]? = some (S.ownItem S.kStart (S.bL S.kLink)) := hxs (by rfl)
  have a0 : I.adr 0 = 0 := rfl
  have g0 := go_label hI (hi00 0) (hlt x0) (V := V) x0
  have g1 := go_jumpD hI (hi00 1) (hlt x1) (V := V) x1 (by decide) (by decide)
  have ret0 := img_0 hI 2
  have ret1 := hadr x2
  obtain ⟨o, k, hRo, hdone⟩ := hr (V.set 31 (I.adr 2)) 3000 (I.adr 2) ((S.Mt.refl_ V).hid (by decide) _) (by rw [vset_other _ _ (by decide), hV]; exact h28) (vset_same _ _ _) ret0 (by omega) (by omega) (by omega)
  obtain ⟨st', rfl, hk, hv, hsm⟩ := hR _ _ _ hRo
  obtain ⟨V', g2, hmt, h28', _⟩ := hdone
  -- where it comes back tq
  have ge : ∃ K, K ≤ k + 3 ∧ S.GoH I (V.set 31 (I.adr 2)) (I.lab r.name) K V' (V'.reg 0) := by
    cases hbh : r.behind with
    | false =>
      rw [hbh] at g2 hxs
      have x3 : I.xs[3]? = some (S.ownItem S.kStart (S.bL S.kAfter)) := hxs (by rfl)
      have x4 : I.xs[4]? = some ⟨1, ⟨36, 0, 0, 0, 0⟩, S.owned S.kStart S.bNo, 0⟩ := hxs (x := S.bI 36 0 0 0 0) (by rfl)
      have g3 := go_label hI (hi00 2) (hlt x2) (V := V') x2
      have g4 := go_label hI (hi00 3) (hlt x3) (V := V') x3
      have g5 := go_halt hI (hi00 4) (hlt x4) (V := V') x4 (by decide)
      exact ⟨_, by omega, ((g2.trans g3).trans g4).halt g5⟩
    | true =>
      rw [hbh] at g2 hxs
      have x3 : I.xs[3]? = some ⟨6, ⟨0, 0, 0, 0, 0⟩, S.owned S.kStart S.bNo, 2⟩ := hxs (x := S.bW 2) (by rfl)
      have x4 : I.xs[4]? = some ⟨6, ⟨0, 0, 0, 0, 0⟩, S.owned S.kStart S.bNo, 9⟩ := hxs (x := S.bW 9) (by rfl)
      have x5 : I.xs[5]? = some ⟨6, ⟨0, 0, 0, 0, 0⟩, S.owned S.kStart S.bNo, 9⟩ := hxs (x := S.bW 9) (by rfl)
      have x6 : I.xs[6]? = some (S.ownItem S.kStart (S.bL S.kAfter)) := hxs (by rfl)
      have x7 : I.xs[7]? = some ⟨1, ⟨36, 0, 0, 0, 0⟩, S.owned S.kStart S.bNo, 0⟩ := hxs (x := S.bI 36 0 0 0 0) (by rfl)
      have n2 : I.adr 3 = I.adr 2 + 0 := img_next hI x2
      have n3 : I.adr 4 = I.adr 3 + 1 := img_next hI x3
      have n4 : I.adr 5 = I.adr 4 + 1 := img_next hI x4
      have n5 : I.adr 6 = I.adr 5 + 1 := img_next hI x5
      have hw3 : (S.wordsAt I.xs I.F 0 3)[0]? = some 2 := by
        unfold S.wordsAt
        rw [x3]
        rfl
      have h2 : V.mem (I.adr 2) = 2 := by
        have := hin 3 (hi00 3) (hlt x3) 0 2 hw3
        rw [hV]
        show (S.ansMach L n).mem.getD (I.adr 2).toNat 0 = 2
        rw [← this]
        congr 1
        omega
      have hm2 : V'.mem (I.adr 2) = 2 := by
        rw [hmt.mem _ ret0 (by omega) (fun h => by have := h.1; omega), hsm, h2]
      have eb : S.backTo true V' (I.adr 2) = I.adr 6 := by
        unfold S.backTo
        rw [if_pos rfl, hm2]
        unfold S.u32m
        omega
      rw [eb] at g2
      have g3 := go_label hI (hi00 6) (hlt x6) (V := V') x6
      have g5 := go_halt hI (hi00 7) (hlt x7) (V := V') x7 (by decide)
      exact ⟨_, by omega, (g2.trans g3).halt g5⟩
  obtain ⟨K, hK, g3⟩ := ge
  have hoff := off_end ((g0.trans g1).halt g3) (N := 100000) (by omega) hon
  refine ⟨hoff.end_, ?_, ?_⟩
  · rw [hoff.reg 28 (by decide) (by decide) (by decide)]; exact h28'
  · rw [hoff.reg 4 (by decide) (by decide) (by decide), ← hv]; exact hmt.vis 4 (by decide)

end Go.Proofs.YtlldagdhlfpihaaGreatDoor
end

section
set_option linter.unusedVariables false
set_option linter.unusedSimpArgs false
set_option linter.unusedSectionVars false
namespace Go.Proofs.YtlldagdhlfpihaaGreatDoor
open Go.RowKit

theorem reads_lit8 {w : World} {b B : Nat} {cs : Array Value} {t : TypeId} {L : List Value} (h : w.heap[b]? = some (.cells cs t (0, 0))) (hcs : cs.toList = L) (hb : b < B) : Reads w B (some ⟨b, 0, none⟩) L := fun _ => by
  subst hcs
  exact ⟨b, 0, rfl, hb, fun i x hx => by rw [Lib.cell_of_heap h]; simpa using hx⟩

set_option maxRecDepth 100000 in
set_option maxHeartbeats 1000000 in
theorem l_start (r : S.BR) (A : Option Addr) (c : Nat) (w : World) (hR : RAt2 w w.heap.size r A) : Calls Tryz.prog 44 #[rVal r A c] w fun e w' =>
    ∃ A' c', e = .returned (.agg #[.string S.kStart, .slice A' (S.sItems r.name r.behind).length c']) ∧ w'.ownsRow w.heap.size 152 8 (.slice A' (S.sItems r.name r.behind).length c') (S.sItems r.name r.behind).length ((S.sItems r.name r.behind).flatMap itemCells) ∧ Below w.heap.size w w' := by
  obtain ⟨nm, P, L, bh, body⟩ := r
  unfold rVal
  simp only
  obtain ⟨N, hN⟩ : ∃ N, N = body.length := ⟨_, rfl⟩
  rw [← hN]
  clear hN hR
  obtain ⟨t1, t2, t3, t4⟩ := two_blocks w (.cells #[.string nm, .int .i64 P, .int .i64 L, .bool bh, .slice A N c] 34) (.cells #[.string ⟨#[]⟩, .slice none 0 0] 98)
  have HbX := Lib.hid t3
  have HRX := Lib.hid t1
  have HOX := Lib.hid t2
  have hzX : w.heap.size + 2 ≤ ((w.alloc (.cells #[.string nm, .int .i64 P, .int .i64 L, .bool bh, .slice A N c] 34)).alloc (.cells #[.string ⟨#[]⟩, .slice none 0 0] 98)).heap.size := Nat.le_of_eq t4.symm
  clear t1 t2 t3 t4
  go_enter Tryz.func44, Tryz.ntmps44
  go_upto_region 1 with fail
  generalize (w.alloc (.cells #[.string nm, .int .i64 P, .int .i64 L, .bool bh, .slice A N c] 34)).alloc (.cells #[.string ⟨#[]⟩, .slice none 0 0] 98) = w2 at *
  have k0 : w2.cell? ⟨w.heap.size, 0, none⟩ = some (.string nm) := by rw [Lib.cell_of_heap HRX.out]; rfl
  have k3 : w2.cell? ⟨w.heap.size, 3, none⟩ = some (.bool bh) := by rw [Lib.cell_of_heap HRX.out]; rfl
  obtain ⟨x1, x2, x3⟩ := one_allocL w2 #[.int .i64 2, .int .i64 0, .int .i64 0, .int .i64 0, .int .i64 0, .int .i64 0, .string ⟨#[115, 116, 97, 114, 116]⟩, .int .u32 0, .int .i64 4, .int .i64 0, .int .i64 31, .int .i64 0, .int .i64 0, .int .i64 0, .string nm, .int .u32 0, .int .i64 2, .int .i64 0, .int .i64 0, .int .i64 0, .int .i64 0, .int .i64 0, .string ⟨#[108, 105, 110, 107]⟩, .int .u32 0] 152
  have hoI : (w2.alloc (.cells #[.int .i64 2, .int .i64 0, .int .i64 0, .int .i64 0, .int .i64 0, .int .i64 0, .string ⟨#[115, 116, 97, 114, 116]⟩, .int .u32 0, .int .i64 4, .int .i64 0, .int .i64 31, .int .i64 0, .int .i64 0, .int .i64 0, .string nm, .int .u32 0, .int .i64 2, .int .i64 0, .int .i64 0, .int .i64 0, .int .i64 0, .int .i64 0, .string ⟨#[108, 105, 110, 107]⟩, .int .u32 0] 152)).ownsRow w.heap.size 152 8 (.slice (some ⟨w2.heap.size, 0, none⟩) 3 3) 3 (([S.bL S.kStart, S.bJ 31 nm, S.bL S.kLink] : List S.Item).flatMap itemCells) :=
    World.ownsRow_lit w2 #[.int .i64 2, .int .i64 0, .int .i64 0, .int .i64 0, .int .i64 0, .int .i64 0, .string ⟨#[115, 116, 97, 114, 116]⟩, .int .u32 0, .int .i64 4, .int .i64 0, .int .i64 31, .int .i64 0, .int .i64 0, .int .i64 0, .string nm, .int .u32 0, .int .i64 2, .int .i64 0, .int .i64 0, .int .i64 0, .int .i64 0, .int .i64 0, .string ⟨#[108, 105, 110, 107]⟩, .int .u32 0] 3 (by omega) (by simp [maxLen]) rfl
  go_upto_region 2 with fail
  generalize w2.alloc (.cells #[.int .i64 2, .int .i64 0, .int .i64 0, .int .i64 0, .int .i64 0, .int .i64 0, .string ⟨#[115, 116, 97, 114, 116]⟩, .int .u32 0, .int .i64 4, .int .i64 0, .int .i64 31, .int .i64 0, .int .i64 0, .int .i64 0, .string nm, .int .u32 0, .int .i64 2, .int .i64 0, .int .i64 0, .int .i64 0, .int .i64 0, .int .i64 0, .string ⟨#[108, 105, 110, 107]⟩, .int .u32 0] 152) = w3 at *
  have HO3 := Lib.hid ((x2.block _ (by omega)).trans HOX.out)
  have Hb3 := Lib.hid (HbX.out.trans (x2.mono HbX.out.size))
  have k3' : w3.cell? ⟨w.heap.size, 3, none⟩ = some (.bool bh) := by rw [(x2.cell (p := ⟨w.heap.size, 3, none⟩) (show w.heap.size < w2.heap.size by omega)), k3]
  have hz3 : w.heap.size + 2 ≤ w3.heap.size := by omega
  clear k0 k3 x1 x2 x3 HOX HbX HRX
  have HoI := Lib.hid hoI
  clear hoI
  cases bh
  · obtain ⟨y1, y2, y3⟩ := one_allocL w3 #[.int .i64 2, .int .i64 0, .int .i64 0, .int .i64 0, .int .i64 0, .int .i64 0, .string ⟨#[97, 102, 116, 101, 114]⟩, .int .u32 0, .int .i64 1, .int .i64 36, .int .i64 0, .int .i64 0, .int .i64 0, .int .i64 0, .string ⟨#[]⟩, .int .u32 0] 152
    have hrd := reads_lit8 (L := ([S.bL S.kAfter, S.bI 36 0 0 0 0] : List S.Item).flatMap itemCells) (B := (w3.alloc (.cells #[.int .i64 2, .int .i64 0, .int .i64 0, .int .i64 0, .int .i64 0, .int .i64 0, .string ⟨#[97, 102, 116, 101, 114]⟩, .int .u32 0, .int .i64 1, .int .i64 36, .int .i64 0, .int .i64 0, .int .i64 0, .int .i64 0, .string ⟨#[]⟩, .int .u32 0] 152)).heap.size) y1 rfl (by omega)
    have hoq := ownsRow_below HoI.out y2
    go_wp2_with (at_builtin; refine wpList_appendsN rfl (.tmp 19) (.tmp 23) _ rfl w.heap.size 152 item_info Tryz.underlying96 rfl (by decide) _ _ _ rfl hoq _ (some ⟨w3.heap.size, 0, none⟩) 2 2 _ rfl rfl (fun h => by cases h) hrd (cells_one _) (by simp [maxLen]) (by simp) (by omega) ?_; intro v' w9 ho9 hg hb hat; obtain ⟨A9, c9, rfl⟩ := ownsRow_form ho9; have hgO : w9.heap[w.heap.size + 1]? = w3.heap[w.heap.size + 1]? := (hg.block (w.heap.size + 1) (by omega) (fun e => own_neB hoq ((y2.block _ (by omega)).trans HO3.out) (by decide) e.symm)).trans (y2.block _ (by omega)); have hbb : Below w.heap.size w w9 := Hb3.out.trans ((y2.mono (by omega)).trans hb); have hzz : w.heap.size + 2 ≤ w9.heap.size := (by have := hb.size; omega); have d0 : w9.cell? ⟨w.heap.size + 1, 0, none⟩ = some (.string ⟨#[]⟩) := (by rw [Lib.cell_of_heap (hgO.trans HO3.out)]; rfl); have f0 : w9.frozen? ⟨w.heap.size + 1, 0, none⟩ = false := Lib.frozen_of_heap (hgO.trans HO3.out) 0; have d1 : w9.cell? ⟨w.heap.size + 1, 1, none⟩ = some (.slice none 0 0) := (by rw [Lib.cell_of_heap (hgO.trans HO3.out)]; rfl); have f1 : w9.frozen? ⟨w.heap.size + 1, 1, none⟩ = false := Lib.frozen_of_heap (hgO.trans HO3.out) 1)
    refine bodyPost_ret (v := .agg #[.string S.kStart, .slice A9 _ c9]) (by simp only [results, Tryz.results44]; go_simp; exact ⟨rfl, rfl⟩) rfl ⟨A9, c9, rfl, ?_, ?_⟩
    · have hne := own_neB ho9 (hgO.trans HO3.out) (by decide)
      have h9 := ownsRow_setCell_other (a := ⟨w.heap.size + 1, 1, none⟩) (ownsRow_setCell_other (a := ⟨w.heap.size + 1, 0, none⟩) ho9 hne (.string ⟨#[115, 116, 97, 114, 116]⟩)) hne (.slice A9 5 c9)
      simp only [← List.flatMap_append] at h9
      exact h9
    · exact (hbb.setCell (p := ⟨w.heap.size + 1, 0, none⟩) (by simp) _).setCell (p := ⟨w.heap.size + 1, 1, none⟩) (by simp) _
  · obtain ⟨y1, y2, y3⟩ := one_allocL w3 #[.int .i64 6, .int .i64 0, .int .i64 0, .int .i64 0, .int .i64 0, .int .i64 0, .string ⟨#[]⟩, .int .u32 2, .int .i64 6, .int .i64 0, .int .i64 0, .int .i64 0, .int .i64 0, .int .i64 0, .string ⟨#[]⟩, .int .u32 9, .int .i64 6, .int .i64 0, .int .i64 0, .int .i64 0, .int .i64 0, .int .i64 0, .string ⟨#[]⟩, .int .u32 9] 152
    have hrd := reads_lit8 (L := ([S.bW 2, S.bW 9, S.bW 9] : List S.Item).flatMap itemCells) (B := (w3.alloc (.cells #[.int .i64 6, .int .i64 0, .int .i64 0, .int .i64 0, .int .i64 0, .int .i64 0, .string ⟨#[]⟩, .int .u32 2, .int .i64 6, .int .i64 0, .int .i64 0, .int .i64 0, .int .i64 0, .int .i64 0, .string ⟨#[]⟩, .int .u32 9, .int .i64 6, .int .i64 0, .int .i64 0, .int .i64 0, .int .i64 0, .int .i64 0, .string ⟨#[]⟩, .int .u32 9] 152)).heap.size) y1 rfl (by omega)
    have hoq := ownsRow_below HoI.out y2
    go_upto_region 4 with (at_builtin; refine wpList_appendsN rfl (.tmp 13) (.tmp 17) _ rfl w.heap.size 152 item_info Tryz.underlying96 rfl (by decide) _ _ _ rfl hoq _ (some ⟨w3.heap.size, 0, none⟩) 3 3 _ rfl rfl (fun h => by cases h) hrd (cells_one _) (by simp [maxLen]) (by simp) (by omega) ?_; intro v' w4 ho4 hg hb hat; obtain ⟨A9, c9, rfl⟩ := ownsRow_form ho4; have hgO : w4.heap[w.heap.size + 1]? = w3.heap[w.heap.size + 1]? := (hg.block (w.heap.size + 1) (by omega) (fun e => own_neB hoq ((y2.block _ (by omega)).trans HO3.out) (by decide) e.symm)).trans (y2.block _ (by omega)); have hbb : Below w.heap.size w w4 := Hb3.out.trans ((y2.mono (by omega)).trans hb); have hzz : w.heap.size + 2 ≤ w4.heap.size := (by have := hb.size; omega))
    have HO4 := Lib.hid ((hgO).trans HO3.out)
    have Hb4 := Lib.hid hbb
    have Ho4 := Lib.hid ho4
    have hz4 : w.heap.size + 2 ≤ w4.heap.size := hzz
    clear hrd hoq hg hb hat y1 y2 y3 hgO hbb ho4 HoI HO3 Hb3 hz3 hzz k3'
    obtain ⟨y1, y2, y3⟩ := one_allocL w4 #[.int .i64 2, .int .i64 0, .int .i64 0, .int .i64 0, .int .i64 0, .int .i64 0, .string ⟨#[97, 102, 116, 101, 114]⟩, .int .u32 0, .int .i64 1, .int .i64 36, .int .i64 0, .int .i64 0, .int .i64 0, .int .i64 0, .string ⟨#[]⟩, .int .u32 0] 152
    have hrd := reads_lit8 (L := ([S.bL S.kAfter, S.bI 36 0 0 0 0] : List S.Item).flatMap itemCells) (B := (w4.alloc (.cells #[.int .i64 2, .int .i64 0, .int .i64 0, .int .i64 0, .int .i64 0, .int .i64 0, .string ⟨#[97, 102, 116, 101, 114]⟩, .int .u32 0, .int .i64 1, .int .i64 36, .int .i64 0, .int .i64 0, .int .i64 0, .int .i64 0, .string ⟨#[]⟩, .int .u32 0] 152)).heap.size) y1 rfl (by omega)
    have hoq := ownsRow_below Ho4.out y2
    go_wp2_with (at_builtin; refine wpList_appendsN rfl (.tmp 19) (.tmp 23) _ rfl w.heap.size 152 item_info Tryz.underlying96 rfl (by decide) _ _ _ rfl hoq _ (some ⟨w4.heap.size, 0, none⟩) 2 2 _ rfl rfl (fun h => by cases h) hrd (cells_one _) (by simp [maxLen]) (by simp) (by omega) ?_; intro v' w9 ho9 hg hb hat; obtain ⟨A9, c9, rfl⟩ := ownsRow_form ho9; have hgO : w9.heap[w.heap.size + 1]? = w4.heap[w.heap.size + 1]? := (hg.block (w.heap.size + 1) (by omega) (fun e => own_neB hoq ((y2.block _ (by omega)).trans HO4.out) (by decide) e.symm)).trans (y2.block _ (by omega)); have hbb : Below w.heap.size w w9 := Hb4.out.trans ((y2.mono (by omega)).trans hb); have hzz : w.heap.size + 2 ≤ w9.heap.size := (by have := hb.size; omega); have d0 : w9.cell? ⟨w.heap.size + 1, 0, none⟩ = some (.string ⟨#[]⟩) := (by rw [Lib.cell_of_heap (hgO.trans HO4.out)]; rfl); have f0 : w9.frozen? ⟨w.heap.size + 1, 0, none⟩ = false := Lib.frozen_of_heap (hgO.trans HO4.out) 0; have d1 : w9.cell? ⟨w.heap.size + 1, 1, none⟩ = some (.slice none 0 0) := (by rw [Lib.cell_of_heap (hgO.trans HO4.out)]; rfl); have f1 : w9.frozen? ⟨w.heap.size + 1, 1, none⟩ = false := Lib.frozen_of_heap (hgO.trans HO4.out) 1)
    refine bodyPost_ret (v := .agg #[.string S.kStart, .slice A9 _ c9]) (by simp only [results, Tryz.results44]; go_simp; exact ⟨rfl, rfl⟩) rfl ⟨A9, c9, rfl, ?_, ?_⟩
    · have hne := own_neB ho9 (hgO.trans HO4.out) (by decide)
      have h9 := ownsRow_setCell_other (a := ⟨w.heap.size + 1, 1, none⟩) (ownsRow_setCell_other (a := ⟨w.heap.size + 1, 0, none⟩) ho9 hne (.string ⟨#[115, 116, 97, 114, 116]⟩)) hne (.slice A9 8 c9)
      simp only [← List.flatMap_append] at h9
      exact h9
    · exact (hbb.setCell (p := ⟨w.heap.size + 1, 0, none⟩) (by simp) _).setCell (p := ⟨w.heap.size + 1, 1, none⟩) (by simp) _

end Go.Proofs.YtlldagdhlfpihaaGreatDoor
end
