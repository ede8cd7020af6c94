/- The machine of package mach: walk of Copy; a copy beside the others. -/
import Derived.Test.YtbgdomnalimjnaaMachZ
import Derived.Laws.Rows
import Derived.Laws.Tables
set_option linter.unusedVariables false
set_option linter.unusedSimpArgs false
set_option linter.unusedSectionVars false
namespace Go.Proofs.Ytbgdomnalimjnaa
open Go.RowKit

theorem m_infoM : (Try.prog.info? 94).map (·.size) = some 41 := by kernel_rfl

/-- Rows and block of a copy: a machine. -/
theorem MAt.copy {w wz : World} {B p p' : Nat} {vm vo vm' vo' : Value} {A : Option Addr} {c rd : Nat} {inp : List Int} {m : S.Mach} (h : MAt w B p vm vo A c inp rd m) (hb : Below w.heap.size w wz) {cs : Array Value}
    (hc : wz.heap[p']? = some (.cells cs 94 (0, 0))) (hcs : cs.toList = mCells m vm' A inp.length c rd vo') (hp : w.heap.size ≤ p')
    (hm : wz.ownsRow w.heap.size 34 1 vm' m.mem.length (m.mem.map (Value.int .u32))) (ho : wz.ownsRow w.heap.size 5 1 vo' m.out.length (m.out.map (Value.int .u8)))
    (h1 : vm'.ownBlock ≠ some p') (h2 : vo'.ownBlock ≠ some p') : MAt wz w.heap.size p' vm' vo' A c inp rd m := by
  refine ⟨h.ok, hp, ⟨cs, hc, hcs⟩, hm, ho, (h.below hb).rin, h.left, h.rdle, h.inl, h.low0, (h.below hb).la, fun b o s e => ?_, h1, h2⟩
  have hlt := h.la b o s e
  refine ⟨by omega, fun e2 => ?_, fun e2 => ?_⟩
  · have := (hm.lt b e2).1
    omega
  · have := (ho.lt b e2).1
    omega

theorem pairwise_of {l : List Mc} (h : l.Pairwise Mc.off) {x y : Mc} (hx : x ∈ l) (hy : y ∈ l) (hne : x ≠ y) : x.off y := by
  induction l with
  | nil => cases hx
  | cons z r ih =>
    obtain ⟨h1, h2⟩ := List.pairwise_cons.1 h
    rcases List.mem_cons.1 hx with rfl | hx
    · rcases List.mem_cons.1 hy with rfl | hy
      · exact absurd rfl hne
      · exact h1 y hy
    · rcases List.mem_cons.1 hy with e | hy
      · rw [e]
        exact (h1 _ hx).symm
      · exact ih h2 hx hy

/-- A copy beside the machine that it was made of and the others. -/
theorem Fam.copied {w wz : World} {B : Nat} {l : List Mc} {x y : Mc} (h : Fam w B l) (hx : x ∈ l) (hb : Below w.heap.size w wz) (hB : B ≤ w.heap.size) (hy : y.at_ wz w.heap.size) (hA : y.A = x.A) : Fam wz B (y :: l) := by
  have hyf : ∀ k, y.foot k → w.heap.size ≤ k := fun k hk => (MAt.foot_lt hy hk).1
  refine ⟨fun z hz => ?_, List.pairwise_cons.2 ⟨fun z hz => ⟨fun k a b => ?_, fun k a b => ?_, fun k a b => ?_⟩, h.off⟩⟩
  · rcases List.mem_cons.1 hz with rfl | hz
    · have hy' : MAt wz w.heap.size z.p z.vm z.vo z.A z.c z.inp z.rd z.m := hy
      exact ⟨hy'.ok, Nat.le_trans hB hy'.low, hy'.blk, ownsRow_base hy'.mem hB, ownsRow_base hy'.out hB, hy'.rin, hy'.left, hy'.rdle, hy'.inl, hy'.low0, hy'.la, hy'.d1, hy'.d2⟩
    · exact MAt.below (h.at_ z hz) hb
  · have h1 := hyf k a
    have h2 := (MAt.foot_lt (h.at_ z hz) b).2
    omega
  · obtain ⟨o, t, e⟩ := b
    have h1 := hyf k a
    have h2 := MAt.la (h.at_ z hz) k o t e
    omega
  · obtain ⟨o, t, e⟩ := a
    rw [hA] at e
    by_cases hxz : x = z
    · subst hxz
      obtain ⟨d1, d2, d3⟩ := MAt.d1 (h.at_ x hx) k o t e
      rcases b with b | b | b
      · exact d1 b
      · exact d2 b
      · exact d3 b
    · have hh := pairwise_of h.off hx hz hxz
      exact hh.sf k ⟨o, t, e⟩ b

theorem alloc_set (w : World) (old cs : Array Value) (T : TypeId) : ((w.alloc (.cells old T)).setRow w.heap.size cs).heap[w.heap.size]? = some (.cells cs T (0, 0)) ∧ Below w.heap.size w ((w.alloc (.cells old T)).setRow w.heap.size cs) ∧ ((w.alloc (.cells old T)).setRow w.heap.size cs).heap.size = w.heap.size + 1 := by
  obtain ⟨x1, x2, x3⟩ := one_allocM w old T
  refine ⟨setRow_heap _ _ _ _ _ _ x1, below_setRow x2 (Nat.le_refl _) _, by rw [setRow_size]; exact x3⟩

theorem copy_end {w wb w6 : World} {B p : Nat} {vm vo vm' vo' : Value} {A : Option Addr} {c rd : Nat} {inp : List Int} {m : S.Mach} (h : MAt w B p vm vo A c inp rd m) {cs : Array Value} (hcs : cs.toList = mCells m vm A inp.length c rd vo)
    (hc : wb.heap[w.heap.size]? = some (.cells cs 94 (0, 0))) (hb : Below w.heap.size w wb) (hz : wb.heap.size = w.heap.size + 1) (hb6 : Below wb.heap.size wb w6)
    (hm : w6.ownsRow wb.heap.size 34 1 vm' m.mem.length (m.mem.map (Value.int .u32))) (ho : w6.ownsRow wb.heap.size 5 1 vo' m.out.length (m.out.map (Value.int .u8))) :
    MAt ((w6.setCell ⟨w.heap.size, 32, none⟩ vm').setCell ⟨w.heap.size, 36, none⟩ vo') w.heap.size w.heap.size vm' vo' A c inp rd m ∧ Below w.heap.size w ((w6.setCell ⟨w.heap.size, 32, none⟩ vm').setCell ⟨w.heap.size, 36, none⟩ vo') := by
  have hz6 := hb6.size
  have hc6 : w6.heap[w.heap.size]? = some (.cells cs 94 (0, 0)) := by rw [hb6.block _ (by omega)]; exact hc
  have hc7 := heap_setCell_same w6 w.heap.size 32 cs _ vm' hc6
  have hc8 := heap_setCell_same _ w.heap.size 36 _ _ vo' hc7
  have hb8 : Below w.heap.size w ((w6.setCell ⟨w.heap.size, 32, none⟩ vm').setCell ⟨w.heap.size, 36, none⟩ vo') := ((hb.trans (hb6.mono (by omega))).setCell (p := ⟨w.heap.size, 32, none⟩) (Nat.le_refl _) _).setCell (p := ⟨w.heap.size, 36, none⟩) (Nat.le_refl _) _
  have hsame : ∀ k, k ≠ w.heap.size → ((w6.setCell ⟨w.heap.size, 32, none⟩ vm').setCell ⟨w.heap.size, 36, none⟩ vo').heap[k]? = w6.heap[k]? := fun k hk => (Below.heap_setCell _ _ _ _ hk).trans (Below.heap_setCell _ _ _ _ hk)
  have nm : ∀ k, vm'.ownBlock = some k → k ≠ w.heap.size := fun k hk => by have := (hm.lt k hk).1; omega
  have no : ∀ k, vo'.ownBlock = some k → k ≠ w.heap.size := fun k hk => by have := (ho.lt k hk).1; omega
  refine ⟨h.copy hb8 hc8 ?_ (Nat.le_refl _) (ownsRow_base (ownsRow_same hm fun k hk => hsame k (nm k hk)) (by omega)) (ownsRow_base (ownsRow_same ho fun k hk => hsame k (no k hk)) (by omega)) (fun e => nm _ e rfl) (fun e => no _ e rfl), hb8⟩
  rw [Array.toList_setIfInBounds, Array.toList_setIfInBounds, hcs]
  unfold mCells
  rw [show (32 : Nat) = 32 + 0 from rfl, set_hi m.reg h.ok.regs, show (36 : Nat) = 32 + 4 from rfl, set_hi m.reg h.ok.regs]
  rfl

def CopyPost (w : World) (A : Option Addr) (c rd : Nat) (inp : List Int) (m : S.Mach) (e : Ending) (w' : World) : Prop :=
  ∃ p vm vo, e = .returned (.pointer (some ⟨p, 0, none⟩)) ∧ MAt w' w.heap.size p vm vo A c inp rd m ∧ Below w.heap.size w w'

set_option maxRecDepth 100000 in
set_option maxHeartbeats 8000000 in
theorem mach_Copy {w : World} {B p : Nat} {vm vo : Value} {A : Option Addr} {c rd : Nat} {inp : List Int} {m : S.Mach} (h : MAt w B p vm vo A c inp rd m) (hl : m.mem.length ≤ 1000000) (hol : m.out.length ≤ 1000000) :
    Calls Try.prog 34 #[.pointer (some ⟨p, 0, none⟩)] w (CopyPost w A c rd inp m) := by
  have hlt := h.lt
  have HM := Lib.hid h
  obtain ⟨cs, hblk, hcs⟩ := h.blk
  have hsz : cs.size = 41 := by
    have := congrArg List.length hcs
    rw [mCells_len h.ok] at this
    simpa using this
  have h1 : cs.all (·.oneCell') = true := by
    obtain ⟨a1, b1, e1⟩ := ownsRow_form h.mem
    obtain ⟨a2, b2, e2⟩ := ownsRow_form h.out
    rw [← Array.all_toList, hcs, e1, e2]
    simp [mCells, Value.oneCell']
  have Hcs := Lib.hid hcs
  obtain ⟨am, km, hvm⟩ := ownsRow_form h.mem
  obtain ⟨ao, ko, hvo⟩ := ownsRow_form h.out
  obtain ⟨c32, _, _, _, c36, _⟩ := h.cells
  clear h hcs
  subst hvm hvo
  go_enter Try.func34, Try.ntmps34
  go_wp2_with fail
  refine (mach_is HM.out).mono ?_
  rintro e w2 ⟨rfl, rfl⟩
  go_upto_region 4 with (first
    | (refine wpList_load_row (o := ⟨some 9, _, _, _, _, _⟩) rfl _ (.tmp 8) rfl p rfl 94 cs (0, 0) _ hblk Try.underlying94 rfl (by rw [m_infoM, hsz]) ?_)
    | (refine wpList_store_row (o := ⟨none, .store 94 (.tmp 3) (.tmp 9), _, _, _, _⟩) rfl 94 (.tmp 3) (.tmp 9) rfl w.heap.size cs rfl rfl 94 _ (one_allocM w _ _).1 (by rw [m_infoM, hsz]) (by rw [hsz]; rfl) h1 ?_))
  refine wp_forget (fun wb => wb.heap[w.heap.size]? = some (.cells cs 94 (0, 0)) ∧ Below w.heap.size w wb ∧ wb.heap.size = w.heap.size + 1) (alloc_set w _ cs _) ?_
  rintro wb ⟨y1, y2, y3⟩
  have b32 := (y2.cell (p := ⟨p, 32, none⟩) hlt).trans c32
  have b36 := (y2.cell (p := ⟨p, 36, none⟩) hlt).trans c36
  have pb : p < wb.heap.size := by omega
  have HMb := Lib.hid (HM.out.below y2)
  have hr1 := Reads.of_own (HM.out.below y2).mem
  have hr2 := Reads.of_own (HM.out.below y2).out
  have s32 : cs[32]? = some (.slice am m.mem.length km) := by rw [← Array.getElem?_toList, Hcs.out]; exact mCells_hi HM.out.ok _ 0
  have s36 : cs[36]? = some (.slice ao m.out.length ko) := by rw [← Array.getElem?_toList, Hcs.out]; exact mCells_hi HM.out.ok _ 4
  have Y1 := Lib.hid y1
  have S32 := Lib.hid s32
  have S36 := Lib.hid s36
  have Hblk := Lib.hid hblk
  clear c32 c36 hblk h1 y1 s32 s36
  go_region_with (first
    | (go_at_call 65; refine (clone_words am km m.mem wb.drew hr1 (by omega)).mono ?_; rintro e w5 ⟨A5, c5, rfl, ho5, hb5d⟩; have hb5 : Below wb.heap.size wb w5 := (Below.refl _ _).drew.trans hb5d; have q36 := (hb5.cell (p := ⟨p, 36, none⟩) pb).trans b36; have pb5 : p < w5.heap.size := Nat.lt_of_lt_of_le pb hb5.size)
    | (go_at_call 66; refine (clone_bytes ao ko m.out w5 ((hr2.below hb5).moreM hb5.size) (by omega)).mono ?_; rintro e w6 ⟨A6, c6, rfl, ho6, hb6⟩
       have hb6' := hb5.trans (hb6.mono hb5.size)
       have Y6 := (hb6'.block w.heap.size (show w.heap.size < wb.heap.size by omega)).trans Y1.out
       have z32 := (cell_of_row w6 w.heap.size 32 cs _ (0, 0) Y6).trans S32.out
       have z36 := (cell_of_row w6 w.heap.size 36 cs _ (0, 0) Y6).trans S36.out
       have f32 := frozen_of_row w6 w.heap.size 32 cs _ Y6
       have f36 := frozen_of_row w6 w.heap.size 36 cs _ Y6
       have hz6 : w.heap.size < w6.heap.size := Nat.lt_of_lt_of_le (show w.heap.size < wb.heap.size by omega) hb6'.size
       have HE := Lib.hid (copy_end HM.out Hcs.out Y1.out y2 y3 hb6' (ownsRow_base (ownsRow_below ho5 hb6) (Nat.le_refl _)) (ownsRow_base ho6 hb5.size))
       clear Y6))
  all_goals
    go_wp2_with fail
    go_ret
    exact ⟨w.heap.size, _, _, rfl, HE.out.1, HE.out.2⟩

end Go.Proofs.Ytbgdomnalimjnaa
