/- AsmH, AsmP: joined.  Walks of the assembler's functions far, jump, words. -/
import Derived.Test.YtlldagdhlfpihaaGreatDoorZAsmJ
import Derived.Test.YtlldagdhlfpihaaGreatDoorZOwnC
import Derived.Test.YtlldagdhlfpihaaGreatDoorZBMach
import Derived.BigRegion
section
set_option linter.unusedVariables false
set_option linter.unusedSimpArgs false
set_option linter.unusedSectionVars false
namespace Go.Proofs.YtlldagdhlfpihaaGreatDoor
open Go.RowKit

theorem u32_infoA : (Tryz.prog.info? 30).map (fun i => (i.zero, i.size, i.bytes)) = some (some (.int .u32 0), 1, 4) := by kernel_rfl

/-- What a function that tells words leaves: a list of words of its own. -/
def Told (w : World) (L : List Int) (e : Ending) (w' : World) : Prop :=
  ∃ v, e = .returned v ∧ w'.ownsRow w.heap.size 30 1 v L.length (L.map (Value.int .u32)) ∧ Below w.heap.size w w'
theorem told_lit {w w1 : World} {L : List Int} {cs : Array Value} {n : Nat} (hn : n = L.length) (hb : Below w.heap.size w w1) (hcs : cs = (L.map (Value.int .u32)).toArray) (h : L.length ≤ 1000) :
    Told w L (.returned (.slice (some ⟨w1.heap.size, 0, none⟩) n n)) (w1.alloc (.cells cs 30)) := by
  subst hcs hn
  refine ⟨_, rfl, ?_, hb.alloc hb.size _⟩
  have h1 := World.ownsRow_lit (base := w.heap.size) (size := 1) (e := 30) w1 (L.map (Value.int .u32)).toArray L.length hb.size (by simp only [maxLen]; omega) (by simp)
  simpa using h1

end Go.Proofs.YtlldagdhlfpihaaGreatDoor
end

section
set_option linter.unusedVariables false
set_option linter.unusedSimpArgs false
set_option linter.unusedSectionVars false
namespace Go.Proofs.YtlldagdhlfpihaaGreatDoor
open Go.RowKit

theorem i64_low16 (x : Int) (h0 : 0 ≤ x) (h1 : x ≤ 4294967295) : bits .and .i64 x 65535 = x % 65536 := by
  have h : (BitVec.ofInt 64 x &&& BitVec.ofInt 64 65535).toNat = (x % 65536).toNat := by
    rw [BitVec.toNat_and]
    have h1 : (BitVec.ofInt 64 65535).toNat = 2 ^ 16 - 1 := by decide
    rw [h1, Nat.and_two_pow_sub_one_eq_mod, BitVec.toNat_ofInt]
    omega
  show IntKind.i64.wrap ((BitVec.ofInt 64 x &&& BitVec.ofInt 64 65535).toNat : Int) = _
  rw [h, IntKind.wrap_i64]
  omega

set_option maxRecDepth 100000 in
set_option maxHeartbeats 1000000 in
theorem asm_far (d ad : Int) (w : World) (h0 : 0 ≤ ad) (h1 : ad ≤ 4294967295) :
    Calls Tryz.prog 180 #[.int .i64 d, .int .i64 ad] w (Told w [S.wordOf ⟨23, d, 0, 0, ad / 65536⟩, S.wordOf ⟨17, d, d, 0, ad % 65536⟩]) := by
  go_enter Tryz.func180, Tryz.ntmps180
  go_wp2_with fail
  refine (asm_word _ _ _ _ _ _).mono ?_
  rintro e w1 ⟨rfl, hb1⟩
  go_wp2_with fail
  refine (asm_word _ _ _ _ _ _).mono ?_
  rintro e w2 ⟨rfl, hb2⟩
  have hz1 := hb1.size
  have hb := hb1.trans (hb2.mono hz1)
  go_wp2_with fail
  go_ret
  exact told_lit (by simp) hb (by rw [i64_low16 ad h0 h1]; simp) (by simp)

set_option maxRecDepth 100000 in
set_option maxHeartbeats 1000000 in
theorem asm_jump1 (d tg at_ : Int) (w : World) (ht0 : 0 ≤ tg) (ht1 : tg ≤ 67108864) (ha0 : 0 ≤ at_) (ha1 : at_ ≤ 67108865) :
    Calls Tryz.prog 179 #[.int .i64 d, .int .i64 1, .int .i64 tg, .int .i64 at_] w (Told w [S.wordOf ⟨32, d, 0, 0, tg - at_ - 1⟩]) := by
  go_enter Tryz.func179, Tryz.ntmps179
  go_wp2_with fail
  refine (asm_word _ _ _ _ _ _).mono ?_
  rintro e w1 ⟨rfl, hb1⟩
  go_wp2_with fail
  go_ret
  exact told_lit (by simp) hb1 (by simp) (by simp)

set_option maxRecDepth 100000 in
set_option maxHeartbeats 1000000 in
theorem asm_jump2 (d tg at_ : Int) (w : World) (ht0 : 0 ≤ tg) (ht1 : tg ≤ 67108864) :
    Calls Tryz.prog 179 #[.int .i64 d, .int .i64 2, .int .i64 tg, .int .i64 at_] w (Told w [S.lui tg, S.ori tg, S.wordOf ⟨33, d, 25, 0, 0⟩]) := by
  go_enter Tryz.func179, Tryz.ntmps179
  go_wp2_with fail
  refine (asm_far _ _ _ ht0 (by omega)).mono ?_
  rintro e w1 ⟨v, rfl, ho, hb1⟩
  obtain ⟨A, c, rfl⟩ := ownsRow_form ho
  go_wp2_with fail
  refine (asm_word _ _ _ _ _ _).mono ?_
  rintro e w2 ⟨rfl, hb2⟩
  have ho2 := ownsRow_below ho hb2
  have hz1 := hb1.size
  have hz2 := hb2.size
  have hb := hb1.trans (hb2.mono hz1)
  go_wp2_with (at_builtin
               refine wpList_push rfl (.tmp 20) (.tmp 24) _ rfl w.heap.size 30 u32_infoA Tryz.underlying50 rfl (by decide) #[.int .u32 (S.wordOf ⟨33, d, 25, 0, 0⟩)] _ _ _ rfl ho2 rfl rfl rfl (by simp [Value.oneCell']) (by simp [maxLen]) (by simp) (by omega) ?_
               intro v' w' hown1 hg1 hb3 hat1)
  go_ret
  exact ⟨_, rfl, by simpa [S.lui, S.ori] using hown1, hb.trans hb3⟩

set_option maxRecDepth 100000 in
set_option maxHeartbeats 4000000 in
theorem asm_words (w : World) {B g gF gA m n : Nat} {A : Option Addr} {c : Nat} {xs : List S.Item} {base : Int} {F : List Int} (h : Work w B g gF gA m n A c xs base F (addrs xs F base (xs.length + 1)) (labF xs)) (hi : Items w B A xs) (hB : B ≤ w.heap.size)
    (i : Nat) (x : S.Item) (hx : xs[i]? = some x) (hok : S.FormOk xs F) (hst : S.named x = true → 0 ≤ S.stands xs x.label) (hls : x.label.size ≤ maxLen)
    (hl : xs.length ≤ 1048576) (hb0 : 0 ≤ base) (htot : S.addr xs F base xs.length ≤ 67108864) (hkind : 1 ≤ x.kind ∧ x.kind ≤ 8) (hw : ∀ x ∈ xs, 0 ≤ x.word ∧ x.word ≤ 4294967295) :
    Calls Tryz.prog 121 #[.pointer (some ⟨g, 0, none⟩), .int .i64 i] w (Told w (S.wordsAt xs F base i)) := by
  have hlt : i < xs.length := (List.getElem?_eq_some_iff.1 hx).1
  obtain ⟨k0, k1, k2, k3, k4⟩ := h.cells
  obtain ⟨l1, l2, l3, l4⟩ := h.lts
  obtain ⟨hcF, hfF⟩ := h.form hlt
  have hcA := (h.at_ (k := i) (by omega)).1
  rw [addrs_getD xs F base _ i (by omega)] at hcA
  obtain ⟨b, off, x', rfl, hb, hx', hc0, hc1, hc2, hc3, hc4, hc5, hc6, hc7, hw0, hw1⟩ := hi.at_ hlt
  rw [hx] at hx'
  cases hx'
  have hbr : b < w.heap.size := by omega
  obtain ⟨h3, h4, h5⟩ := hok.2 i x hx
  have hwat : S.wordsAt xs F base i = S.wordsOf x (F.getD i 0) (S.addr xs F base i) (S.toOf xs F base x) := by simp [S.wordsAt, hx]
  have htb := toOf_bd (base := base) hok hw hb0 htot x
  have hle1 := addr_le (base := base) hok hw (i := i) (n := xs.length) (by omega)
  have hle2 := addr_le (base := base) hok hw (i := i + 1) (n := xs.length) hlt
  have hge := (addr_bd (base := base) hok hw i).1
  have hsa : S.addr xs F base (i + 1) = S.addr xs F base i + S.size x (F.getD i 0) := by rw [S.addr]; simp [S.sizeAt, hx]
  have h8 : x.kind = 8 → x.word ≤ 67108864 := by
    intro h
    have : S.size x (F.getD i 0) = x.word := by simp [S.size, h]
    omega
  have hnam : S.named x = true → ∃ j : Nat, labF xs x.label = some (j : Int) ∧ j ≤ xs.length ∧ (addrs xs F base (xs.length + 1)).getD j 0 = S.toOf xs F base x := by
    intro hn
    have h0 := hst hn
    rcases stands_spec xs x.label with ⟨e, _⟩ | ⟨j, y, e, hj, _⟩
    · omega
    · have hjl := (List.getElem?_eq_some_iff.1 hj).1
      refine ⟨j, by unfold labF; rw [if_neg (by omega), e], by omega, ?_⟩
      rw [addrs_getD xs F base _ j (by omega)]
      simp [S.toOf, hn, e]
  have hto0 : S.named x = false → S.toOf xs F base x = 0 := fun hn => by simp [S.toOf, hn]
  have Hwat := Lib.hid hwat
  clear hwat hx hsa hle2 hst h5 hok hw
  generalize S.toOf xs F base x = tg at *
  generalize S.addr xs F base i = ai at *
  generalize S.wordsAt xs F base i = W at *
  generalize hfk : F.getD i 0 = fk at *
  have Hfk := Lib.hid hfk
  clear hfk
  obtain ⟨kind, ⟨op, d, a, b', imm⟩, lab, wd⟩ := x
  simp only at hc0 hc1 hc2 hc3 hc4 hc5 hc6 hc7 hw0 hw1 h3 h4 h8 hls hkind
  obtain ⟨t0, t1⟩ := htb
  have hways : kind = 1 ∨ kind = 2 ∨ (kind = 3 ∧ (fk = 1 ∨ fk = 2 ∨ fk = 3)) ∨ (kind = 4 ∧ (fk = 1 ∨ fk = 2)) ∨ kind = 5 ∨ kind = 6 ∨ kind = 7 ∨ kind = 8 := by
    by_cases k3 : kind = 3
    · have := h3 k3; omega
    · by_cases k4 : kind = 4
      · have := h4 k4; omega
      · omega
  have Hways := Lib.hid hways
  clear h3 h4 hkind hways
  go_enter Tryz.func121, Tryz.ntmps121
  go_wp2_with fail
  go_region
  as_aux_lemma =>
    go_wp2_with fail
    refine (asm_named _ _ _ _ _ _ _ _ _).mono ?_
    rintro e w2 ⟨rfl, hb2⟩
    have hb1 : Below w.heap.size w w2 := ((Below.refl _ _).alloc (Nat.le_refl _) _).drew.trans (hb2.mono (by simp))
    have hz1 : w.heap.size < w2.heap.size := by have := hb2.size; simp at this; omega
    have hX : ∀ (j : Nat) (v : Value), (#[Value.int .i64 kind, .int .i64 op, .int .i64 d, .int .i64 a, .int .i64 b', .int .i64 imm, .string lab, .int .u32 wd])[j]? = some v → w2.cell? ⟨w.heap.size, j, none⟩ = some v := by
      intro j v hv
      rw [hb2.cell (p := ⟨_, j, none⟩) (by simp), ← hv]
      exact cell_row_new _ _ _ _
    have hX0 := hX 0 (.int .i64 kind) rfl
    have hX1 := hX 1 (.int .i64 op) rfl
    have hX2 := hX 2 (.int .i64 d) rfl
    have hX3 := hX 3 (.int .i64 a) rfl
    have hX4 := hX 4 (.int .i64 b') rfl
    have hX5 := hX 5 (.int .i64 imm) rfl
    have hX6 := hX 6 (.string lab) rfl
    have hX7 := hX 7 (.int .u32 wd) rfl
    have hW2 := h.below hb1
    have hzz := hb1.size
    clear hX k0 k1 k2 k3 k4 l1 l2 l3 l4 hcF hfF hcA hc0 hc1 hc2 hc3 hc4 hc5 hc6 hc7 h hi
    rcases Hways.out with rfl | rfl | ⟨rfl, k⟩ | ⟨rfl, k⟩ | rfl | rfl | rfl | rfl
    · as_aux_lemma =>
        have hn : S.named ⟨1, ⟨op, d, a, b', imm⟩, lab, wd⟩ = false := by simp [S.named]
        have h0 := hto0 hn
        subst h0
        rw [hn]
        clear hn hnam hto0 h8
        go_wp2_with fail
        refine (asm_word _ _ _ _ _ _).mono ?_
        rintro e w3 ⟨rfl, hb3⟩
        go_wp2_with fail
        go_ret
        rw [Hwat.out]
        exact told_lit (by simp [S.wordsOf]) (hb1.trans (hb3.mono hzz)) (by simp [S.wordsOf]) (by simp [S.wordsOf])
    · as_aux_lemma =>
        have hn : S.named ⟨2, ⟨op, d, a, b', imm⟩, lab, wd⟩ = false := by simp [S.named]
        have h0 := hto0 hn
        subst h0
        rw [hn]
        clear hn hnam hto0 h8
        go_wp2_with fail
        go_ret
        rw [Hwat.out]
        refine ⟨_, rfl, ?_, hb1⟩
        simpa [S.wordsOf] using World.ownsRow_nil _ _ _ _
    · as_aux_lemma =>
        have hn : S.named ⟨3, ⟨op, d, a, b', imm⟩, lab, wd⟩ = true := by simp [S.named]
        obtain ⟨j, hj1, hj2, hj3⟩ := hnam hn
        have Hj1 := Lib.hid hj1
        have Hj3 := Lib.hid hj3
        rw [hn]
        clear hn hnam hto0 h8 hj1 hj3
        go_wp2_with fail
        refine (asm_address _ hW2 lab hls j Hj1.out hj2 hl tg Hj3.out).mono ?_
        rintro e w3 ⟨rfl, hb3⟩
        have hbw3 := hb1.trans (hb3.mono hzz)
        have hz3 := hb3.size
        obtain ⟨hq1, hq2⟩ := bcell hb3
        rcases k with rfl | rfl | rfl
        · go_wp2_with fail
          refine (asm_word _ _ _ _ _ _).mono ?_
          rintro e w4 ⟨rfl, hb4⟩
          go_wp2_with fail
          go_ret
          rw [Hwat.out]
          exact told_lit (by simp [S.wordsOf]) ((hbw3.alloc (by omega) _).trans (hb4.mono (by simp; omega))) (by simp [S.wordsOf]) (by simp [S.wordsOf])
        · go_wp2_with (go_at_call 178; refine (asm_Turned _ _).mono ?_; rintro e w' ⟨rfl, rfl⟩)
          refine (asm_word _ _ _ _ _ _).mono ?_
          rintro e w4 ⟨rfl, hb4⟩
          have hb34 : Below w.heap.size w w4 := (hbw3.alloc (by omega) _).trans (hb4.mono (by simp; omega))
          have hz4 := hb34.size
          go_wp2_with fail
          refine (asm_jump1 _ _ _ _ t0 t1 (by omega) (by omega)).mono ?_
          rintro e w5 ⟨v, rfl, ho, hb5⟩
          have hb45 : Below w4.heap.size w4 w5 := ((Below.refl _ _).alloc (Nat.le_refl _) _).trans (hb5.mono (by simp))
          have hol := World.ownsRow_lit (base := w.heap.size) (size := 1) (e := 30) w4 #[.int .u32 (S.wordOf ⟨S.turned op, 0, a, b', 1⟩)] 1 hz4 (by simp [maxLen]) rfl
          have hol5 := ownsRow_below hol hb5
          have hbw5 := hb34.trans (hb45.mono hz4)
          have hz5 := hbw5.size
          obtain ⟨Aw, cw, rfl⟩ := ownsRow_form ho
          have hrd := Reads.of_own ho
          have hAw : Aw = none → 1 = 0 := ownsRow_none ho
          go_wp2_with (at_builtin
                       refine wpList_appends rfl (.tmp 76) (.tmp 82) _ rfl w.heap.size 30 u32_infoA Tryz.underlying50 rfl _ _ _ rfl hol5 _ Aw 1 cw _ rfl (by simp) hAw hrd (by simp [Value.oneCell']) (by simp [maxLen]) (by simp) (by omega) ?_
                       intro vo' w6 ho6 hg6 hb6 hat6)
          go_ret
          rw [Hwat.out]
          refine ⟨_, rfl, ?_, hbw5.trans hb6⟩
          have e : tg - (ai + 1) - 1 = tg - ai - 2 := by omega
          rw [e] at ho6
          simpa [S.wordsOf] using ho6
        · go_wp2_with (go_at_call 178; refine (asm_Turned _ _).mono ?_; rintro e w' ⟨rfl, rfl⟩)
          refine (asm_word _ _ _ _ _ _).mono ?_
          rintro e w4 ⟨rfl, hb4⟩
          have hb34 : Below w.heap.size w w4 := (hbw3.alloc (by omega) _).trans (hb4.mono (by simp; omega))
          have hz4 := hb34.size
          go_wp2_with fail
          refine (asm_jump2 _ _ _ _ t0 t1).mono ?_
          rintro e w5 ⟨v, rfl, ho, hb5⟩
          have hb45 : Below w4.heap.size w4 w5 := ((Below.refl _ _).alloc (Nat.le_refl _) _).trans (hb5.mono (by simp))
          have hol := World.ownsRow_lit (base := w.heap.size) (size := 1) (e := 30) w4 #[.int .u32 (S.wordOf ⟨S.turned op, 0, a, b', 3⟩)] 1 hz4 (by simp [maxLen]) rfl
          have hol5 := ownsRow_below hol hb5
          have hbw5 := hb34.trans (hb45.mono hz4)
          have hz5 := hbw5.size
          obtain ⟨Aw, cw, rfl⟩ := ownsRow_form ho
          have hrd := Reads.of_own ho
          have hAw : Aw = none → 3 = 0 := ownsRow_none ho
          go_wp2_with (at_builtin
                       refine wpList_appends rfl (.tmp 76) (.tmp 82) _ rfl w.heap.size 30 u32_infoA Tryz.underlying50 rfl _ _ _ rfl hol5 _ Aw 3 cw _ rfl (by simp) hAw hrd (by simp [Value.oneCell']) (by simp [maxLen]) (by simp) (by omega) ?_
                       intro vo' w6 ho6 hg6 hb6 hat6)
          go_ret
          rw [Hwat.out]
          refine ⟨_, rfl, ?_, hbw5.trans hb6⟩
          simpa [S.wordsOf] using ho6
    · as_aux_lemma =>
        have hn : S.named ⟨4, ⟨op, d, a, b', imm⟩, lab, wd⟩ = true := by simp [S.named]
        obtain ⟨j, hj1, hj2, hj3⟩ := hnam hn
        have Hj1 := Lib.hid hj1
        have Hj3 := Lib.hid hj3
        rw [hn]
        clear hn hnam hto0 h8 hj1 hj3
        go_wp2_with fail
        refine (asm_address _ hW2 lab hls j Hj1.out hj2 hl tg Hj3.out).mono ?_
        rintro e w3 ⟨rfl, hb3⟩
        have hbw3 := hb1.trans (hb3.mono hzz)
        have hz3 := hb3.size
        obtain ⟨hq1, hq2⟩ := bcell hb3
        rcases k with rfl | rfl
        · go_wp2_with fail
          refine (asm_jump1 _ _ _ _ t0 t1 (by omega) (by omega)).mono ?_
          rintro e w4 ⟨v, rfl, ho, hb4⟩
          go_wp2_with fail
          go_ret
          rw [Hwat.out]
          refine ⟨_, rfl, ?_, hbw3.trans (hb4.mono (by omega))⟩
          exact ownsRow_base (by simpa [S.wordsOf] using ho) (by omega)
        · go_wp2_with fail
          refine (asm_jump2 _ _ _ _ t0 t1).mono ?_
          rintro e w4 ⟨v, rfl, ho, hb4⟩
          go_wp2_with fail
          go_ret
          rw [Hwat.out]
          refine ⟨_, rfl, ?_, hbw3.trans (hb4.mono (by omega))⟩
          exact ownsRow_base (by simpa [S.wordsOf] using ho) (by omega)
    · as_aux_lemma =>
        have hn : S.named ⟨5, ⟨op, d, a, b', imm⟩, lab, wd⟩ = true := by simp [S.named]
        obtain ⟨j, hj1, hj2, hj3⟩ := hnam hn
        have Hj1 := Lib.hid hj1
        have Hj3 := Lib.hid hj3
        rw [hn]
        clear hn hnam hto0 h8 hj1 hj3
        go_wp2_with fail
        refine (asm_address _ hW2 lab hls j Hj1.out hj2 hl tg Hj3.out).mono ?_
        rintro e w3 ⟨rfl, hb3⟩
        have hbw3 := hb1.trans (hb3.mono hzz)
        have hz3 := hb3.size
        obtain ⟨hq1, hq2⟩ := bcell hb3
        go_wp2_with fail
        refine (asm_far _ _ _ (by omega) (by omega)).mono ?_
        rintro e w4 ⟨v, rfl, ho, hb4⟩
        go_wp2_with fail
        go_ret
        rw [Hwat.out]
        refine ⟨_, rfl, ?_, hbw3.trans (hb4.mono (by omega))⟩
        exact ownsRow_base (by simpa [S.wordsOf] using ho) (by omega)
    · as_aux_lemma =>
        have hn : S.named ⟨6, ⟨op, d, a, b', imm⟩, lab, wd⟩ = false := by simp [S.named]
        have h0 := hto0 hn
        subst h0
        rw [hn]
        clear hn hnam hto0 h8
        go_wp2_with fail
        go_ret
        rw [Hwat.out]
        exact told_lit (by simp [S.wordsOf]) hb1 (by simp [S.wordsOf]) (by simp [S.wordsOf])
    · as_aux_lemma =>
        have hn : S.named ⟨7, ⟨op, d, a, b', imm⟩, lab, wd⟩ = true := by simp [S.named]
        obtain ⟨j, hj1, hj2, hj3⟩ := hnam hn
        have Hj1 := Lib.hid hj1
        have Hj3 := Lib.hid hj3
        rw [hn]
        clear hn hnam hto0 h8 hj1 hj3
        go_wp2_with fail
        refine (asm_address _ hW2 lab hls j Hj1.out hj2 hl tg Hj3.out).mono ?_
        rintro e w3 ⟨rfl, hb3⟩
        have hbw3 := hb1.trans (hb3.mono hzz)
        have hz3 := hb3.size
        obtain ⟨hq1, hq2⟩ := bcell hb3
        go_wp2_with fail
        go_ret
        rw [Hwat.out]
        exact told_lit (by simp [S.wordsOf]) hbw3 (by simp [S.wordsOf, Int.mul_comm tg 4]) (by simp [S.wordsOf])
    · as_aux_lemma =>
        have hn : S.named ⟨8, ⟨op, d, a, b', imm⟩, lab, wd⟩ = false := by simp [S.named]
        have h0 := hto0 hn
        subst h0
        rw [hn]
        have hwd := h8 rfl
        clear hn hnam hto0 h8
        obtain ⟨n, rfl⟩ := Int.eq_ofNat_of_zero_le hw0
        go_wp2_with (refine wpList_makeN rfl (.tmp 122) (.tmp 122) _ rfl w.heap.size 30 u32_infoA Tryz.underlying50 rfl .u32 .u32 _ _ n rfl rfl rfl rfl (by omega) (by simp only [maxLen]; omega) hzz ?_
                     intro w3 ho3 hb3)
        go_ret
        rw [Hwat.out]
        refine ⟨_, rfl, ?_, hb1.trans (hb3.mono hzz)⟩
        simpa [S.wordsOf] using ho3

end Go.Proofs.YtlldagdhlfpihaaGreatDoor
end
