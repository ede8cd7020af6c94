/- BWpL, BRls, BAok, BAnL: joined.  Plain: such a routine and its start are linked, and what a machine makes of them. No program in sight. -/
import Derived.Test.YtlldagdhlfpihaaGreatDoorZBLwS
import Derived.Test.YtlldagdhlfpihaaGreatDoorZBMem
import Derived.Test.YtlldagdhlfpihaaGreatDoorZMachM
import Derived.KernelRfl
section
set_option linter.unusedVariables false
set_option linter.unusedSimpArgs false
set_option linter.unusedSectionVars false
namespace Go.Proofs.YtlldagdhlfpihaaGreatDoor
open Go.RowKit

namespace S
def eC (n : Int) : BE := .mk 1 n bNo []
def eL (n : Int) : BE := .mk 2 n bNo []
def eB (op : Int) (a b : BE) : BE := .mk 4 op bNo [a, b]
def eF (name : ByteArray) (l : List BE) : BE := .mk 6 0 name l
def eQ (a b : BE) : BE := .mk 7 0 bNo [a, b]
def sAs (n : Int) (e : BE) : BS := .mk 1 n bNo [e] [] [] []
def sIf (e : BE) (b l : List BS) : BS := .mk 3 0 bNo [e] [] b l
def sWh (e : BE) (b : List BS) : BS := .mk 4 0 bNo [e] [] b []
def sRet (regs : List Int) (l : List BE) : BS := .mk 5 0 bNo l regs [] []
def sBk (e : BE) : BS := sRet [4] [e]
end S

section
variable {I : S.Img} {dep lk : Int} {env : List Int} {at_ : Nat} {st : S.Vw} {c : Nat} {Q : Int → S.Vw → Nat → Prop} {H : Int → S.Vw → Nat → Prop}
theorem wpE_mk (op n : Int) (nm : ByteArray) (l : List S.BE) : S.wpE I dep lk env (.mk op n nm l) at_ st c Q H = S.wpEs I dep lk env l at_ st c (fun vs st1 c1 => S.wpOp I dep lk op n nm at_ env vs st1 c1 Q H) H := by rw [S.wpE]
theorem wpE_c (n : Int) : S.wpE I dep lk env (S.eC n) at_ st c Q H = Q (n % 4294967296) st (c + 2) := by
  rw [S.eC, wpE_mk, S.wpEs, S.wpOp, if_pos rfl]
theorem wpE_l (n : Int) : S.wpE I dep lk env (S.eL n) at_ st c Q H = Q (env.getD n.toNat 0) st (c + 1) := by
  rw [S.eL, wpE_mk, S.wpEs, S.wpOp, if_neg (by decide), if_pos rfl]
theorem wpE_b (op : Int) (a b : S.BE) : S.wpE I dep lk env (S.eB op a b) at_ st c Q H =
    S.wpE I dep lk env a at_ st c (fun v st1 c1 => S.wpE I dep lk env b (at_ + 1) st1 c1 (fun u st2 c2 => (u = 0 → op ≠ 5 ∧ op ≠ 6) ∧ Q (S.alu op v u) st2 (c2 + 1)) H) H := by
  rw [S.eB, wpE_mk, S.wpEs]
  refine congrArg (fun q => S.wpE I dep lk env a at_ st c q H) (funext fun v => funext fun st1 => funext fun c1 => ?_)
  rw [S.wpEs]
  refine congrArg (fun q => S.wpE I dep lk env b (at_ + 1) st1 c1 q H) (funext fun u => funext fun st2 => funext fun c2 => ?_)
  rw [S.wpEs, S.wpOp, if_neg (by decide), if_neg (by decide), if_neg (by decide), if_pos rfl]
  rfl
/-- A call of a routine that ends so. -/
def S.wpCall (I : S.Img) (dep : Int) (name : ByteArray) (at_ : Nat) (vs : List Int) (st : S.Vw) (c : Nat) (Q H : Int → S.Vw → Nat → Prop) : Prop :=
  ∃ d R, S.Real I name false (st.args vs) d R ∧ d ≤ dep ∧ ∀ ret o k, R ret o k → (match o with
    | .ret st2 => Q (st2.reg 4) st2 (c + 2 * at_ + vs.length + 4 + k)
    | .halt code st2 => H code st2 (c + 2 * at_ + vs.length + 4 + k)
    | .left _ _ => False)
theorem wpE_f (nm : ByteArray) (l : List S.BE) : S.wpE I dep lk env (S.eF nm l) at_ st c Q H = S.wpEs I dep lk env l at_ st c (fun vs st1 c1 => S.wpCall I dep nm at_ vs st1 c1 Q H) H := by
  rw [S.eF, wpE_mk]
  refine congrArg (fun q => S.wpEs I dep lk env l at_ st c q H) (funext fun v => funext fun st1 => funext fun c1 => ?_)
  rw [S.wpOp, if_neg (by decide), if_neg (by decide), if_neg (by decide), if_neg (by decide), if_neg (by decide), if_pos rfl]
  rfl
theorem wpE_f1 (nm : ByteArray) (a : S.BE) : S.wpE I dep lk env (S.eF nm [a]) at_ st c Q H = S.wpE I dep lk env a at_ st c (fun v st1 c1 => S.wpCall I dep nm at_ [v] st1 c1 Q H) H := by
  rw [wpE_f, S.wpEs]
  refine congrArg (fun q => S.wpE I dep lk env a at_ st c q H) (funext fun v => funext fun st1 => funext fun c1 => ?_)
  rw [S.wpEs]
theorem wpE_q (a b : S.BE) : S.wpE I dep lk env (S.eQ a b) at_ st c Q H =
    S.wpE I dep lk env a at_ st c (fun v st1 c1 => S.wpE I dep lk env b (at_ + 1) st1 c1 (fun u st2 c2 => Q (if v = u then 1 else 0) st2 (c2 + 3)) H) H := by
  rw [S.eQ, wpE_mk, S.wpEs]
  refine congrArg (fun q => S.wpE I dep lk env a at_ st c q H) (funext fun v => funext fun st1 => funext fun c1 => ?_)
  rw [S.wpEs]
  refine congrArg (fun q => S.wpE I dep lk env b (at_ + 1) st1 c1 q H) (funext fun u => funext fun st2 => funext fun c2 => ?_)
  rw [S.wpEs, S.wpOp, if_neg (by decide), if_neg (by decide), if_neg (by decide), if_neg (by decide), if_neg (by decide), if_neg (by decide), if_pos rfl]
  rfl
end

section
variable {I : S.Img} {dep lk : Int} {behind : Bool} {env : List Int} {st : S.Vw} {c : Nat} {Q : List Int → S.Vw → Nat → Prop} {R : S.BO → Nat → Prop}
theorem wpEs_1 {a : S.BE} {at_ : Nat} {T : List Int → S.Vw → Nat → Prop} {H : Int → S.Vw → Nat → Prop} : S.wpEs I dep lk env [a] at_ st c T H = S.wpE I dep lk env a at_ st c (fun v st1 c1 => T [v] st1 c1) H := by
  rw [S.wpEs]
  refine congrArg (fun q => S.wpE I dep lk env a at_ st c q H) (funext fun v => funext fun st1 => funext fun c1 => ?_)
  rw [S.wpEs]
theorem wpSs_0 : S.wpSs I dep lk behind [] env st c Q R = Q env st c := by rw [S.wpSs]
theorem wpSs_c (s : S.BS) (r : List S.BS) : S.wpSs I dep lk behind (s :: r) env st c Q R = S.wpS I dep lk behind s env st c (fun env1 st1 c1 => S.wpSs I dep lk behind r env1 st1 c1 Q R) R := by rw [S.wpSs]
theorem wpS_as (n : Int) (e : S.BE) : S.wpS I dep lk behind (S.sAs n e) env st c Q R = S.wpE I dep lk env e 0 st c (fun v st1 c1 => Q (env.set n.toNat v) st1 (c1 + 1)) (fun code st c => R (.halt code st) c) := by
  rw [S.sAs, S.wpS, if_neg (by decide), wpEs_1]
  refine congrArg (fun q => S.wpE I dep lk env e 0 st c q _) (funext fun v => funext fun st1 => funext fun c1 => ?_)
  rw [if_pos rfl]
  rfl
theorem wpS_if (e : S.BE) (b l : List S.BS) : S.wpS I dep lk behind (S.sIf e b l) env st c Q R =
    S.wpE I dep lk env e 0 st c (fun v st1 c1 => if v = 0 then S.wpSs I dep lk behind l env st1 (c1 + 4) Q R else S.wpSs I dep lk behind b env st1 (c1 + 4) (fun env2 st2 c2 => Q env2 st2 (c2 + 3)) R) (fun code st c => R (.halt code st) c) := by
  rw [S.sIf, S.wpS, if_neg (by decide), wpEs_1]
  refine congrArg (fun q => S.wpE I dep lk env e 0 st c q _) (funext fun v => funext fun st1 => funext fun c1 => ?_)
  rw [if_neg (by decide), if_neg (by decide), if_pos rfl]
  rfl
theorem wpS_wh (e : S.BE) (b : List S.BS) : S.wpS I dep lk behind (S.sWh e b) env st c Q R =
    ∃ J : List Int → S.Vw → Nat → Nat → Prop, (∃ k, J env st c k) ∧ ∀ env st c k, J env st c k →
      S.wpE I dep lk env e 0 st c (fun v st1 c1 => if v = 0 then Q env st1 (c1 + 4) else S.wpSs I dep lk behind b env st1 (c1 + 4) (fun env2 st2 c2 => ∃ k2, k2 < k ∧ J env2 st2 (c2 + 3) k2) R) (fun code st c => R (.halt code st) c) := by
  rw [S.sWh, S.wpS, if_pos rfl]
  simp only [wpEs_1]
  rfl
theorem wpS_ret (regs : List Int) (l : List S.BE) : S.wpS I dep lk behind (S.sRet regs l) env st c Q R = S.wpEs I dep lk env l 0 st c (fun vs st1 c1 => R (.ret (st1.regs regs vs)) (c1 + regs.length + (if behind = true then 5 else 3))) (fun code st c => R (.halt code st) c) := by
  rw [S.sRet, S.wpS, if_neg (by decide)]
  refine congrArg (fun q => S.wpEs I dep lk env l 0 st c q _) (funext fun v => funext fun st1 => funext fun c1 => ?_)
  rw [if_neg (by decide), if_neg (by decide), if_neg (by decide), if_pos rfl]
theorem wpS_bk (e : S.BE) : S.wpS I dep lk behind (S.sBk e) env st c Q R = S.wpE I dep lk env e 0 st c (fun v st1 c1 => R (.ret (st1.set 4 v)) (c1 + 1 + (if behind = true then 5 else 3))) (fun code st c => R (.halt code st) c) := by
  rw [S.sBk, wpS_ret, wpEs_1]
  rfl
end

end Go.Proofs.YtlldagdhlfpihaaGreatDoor
end

section
set_option linter.unusedVariables false
set_option linter.unusedSimpArgs false
set_option linter.unusedSectionVars false
namespace Go.Proofs.YtlldagdhlfpihaaGreatDoor
open Go.RowKit

namespace S
def kDouble : ByteArray := ⟨#[100, 111, 117, 98, 108, 101]⟩
def kPower : ByteArray := ⟨#[112, 111, 119, 101, 114]⟩
/-- The chapter's routine with another body, perhaps words behind its call. -/
def rD (behind : Bool) (body : List BS) : BR := ⟨kDouble, 1, 1, behind, body⟩
def rDbl (behind : Bool) : BR := rD behind [sBk (eB 1 (eL 0) (eL 0))]
def eLess : BE := eB 2 (eL 0) (eC 1)
def eAgain : BE := eF kPower [eLess]
def rPow : BR := ⟨kPower, 1, 1, false, [sIf (eQ (eL 0) (eC 0)) [sBk (eC 1)] [sBk (eB 1 eAgain eAgain)]]⟩
def rLoop : BR := ⟨kPower, 1, 2, false, [sAs 1 (eC 1), sWh (eL 0) [sAs 1 (eB 1 (eL 1) (eL 1)), sAs 0 eLess], sBk (eL 1)]⟩
def rNum (n : Int) : BR := rD false [sBk (eC n)]
def rBin (op a b : Int) : BR := rD false [sBk (eB op (eC a) (eC b))]
/-- How a routine of the examples ends: it comes back with a number, within so many steps. -/
def Gives (st : Vw) (v : Int) (K : Nat) (_ : Int) (o : BO) (k : Nat) : Prop := ∃ st', o = .ret st' ∧ k ≤ K ∧ st'.reg 4 = v ∧ st'.mem = st.mem
end S

theorem env_one {env : List Int} (h : (env.length : Int) = 1) : ∃ a, env = [a] := by
  match env, h with
  | [a], _ => exact ⟨a, rfl⟩
  | [], h => simp at h
  | _ :: _ :: _, h => simp at h; omega
theorem env_two {env : List Int} (h : (env.length : Int) = 2) : ∃ a b, env = [a, b] := by
  match env, h with
  | [a, b], _ => exact ⟨a, b, rfl⟩
  | [], h => simp at h
  | [_], h => simp at h
  | _ :: _ :: _ :: _, h => simp at h; omega

theorem chk_rDbl (behind : Bool) : S.chkB (S.rDbl behind) = 0 := by cases behind <;> kernel_rfl
theorem chk_rPow : S.chkB S.rPow = 0 := by kernel_rfl
theorem chk_rLoop : S.chkB S.rLoop = 0 := by kernel_rfl
theorem chk_rNum {n : Int} (h : -2147483648 ≤ n ∧ n ≤ 4294967295) : S.chkB (S.rNum n) = 0 := by
  have h1 : S.numE 1 1 n = true := by unfold S.numE; rw [if_pos rfl]; exact decide_eq_true h
  simp [S.chkB, S.rNum, S.rD, S.sBk, S.sRet, S.eC, S.chkSs, S.chkS, S.shapedS, S.formedEs, S.formedE, S.headE, h1, S.needEs, S.needE, S.kidsE, S.namedE, S.bNo, S.risingB, S.bodiesS, S.numS, S.exprsS, S.namedS]
  have hl : S.labB S.kDouble = true := by kernel_rfl
  have hv : S.visB 4 = true := by decide
  have he : ({ data := #[] } : ByteArray) = ByteArray.empty := rfl
  simp [hl, hv, he]
theorem chk_rBin {op a b : Int} (ho : 1 ≤ op ∧ op ≤ 14) (ha : -2147483648 ≤ a ∧ a ≤ 4294967295) (hb : -2147483648 ≤ b ∧ b ≤ 4294967295) : S.chkB (S.rBin op a b) = 0 := by
  have h1 : S.numE 1 1 a = true := by unfold S.numE; rw [if_pos rfl]; exact decide_eq_true ha
  have h2 : S.numE 1 1 b = true := by unfold S.numE; rw [if_pos rfl]; exact decide_eq_true hb
  have h3 : S.numE 1 4 op = true := by unfold S.numE; rw [if_neg (by decide), if_neg (by decide), if_neg (by decide), if_pos rfl]; exact decide_eq_true ho
  simp [S.chkB, S.rBin, S.rD, S.sBk, S.sRet, S.eB, S.eC, S.chkSs, S.chkS, S.shapedS, S.formedEs, S.formedE, S.headE, h1, h2, h3, S.needEs, S.needE, S.kidsE, S.namedE, S.bNo, S.risingB, S.bodiesS, S.numS, S.exprsS, S.namedS]
  have hl : S.labB S.kDouble = true := by kernel_rfl
  have hv : S.visB 4 = true := by decide
  have he : ({ data := #[] } : ByteArray) = ByteArray.empty := rfl
  simp [hl, hv, he]

section
variable {I : S.Img} (hI : I.Ok)
include hI
theorem real_dbl (behind : Bool) {i : Nat} (hs : S.Seg I S.kDouble i (S.bItems (S.rDbl behind))) (st : S.Vw) :
    S.Real I S.kDouble behind st 16 (S.Gives st (S.u32m (st.reg 4 + st.reg 4)) 99000) := by
  refine real_of hI (S.rDbl behind) (chk_rDbl behind) hs (dep := 0) (Int.le_refl _) st _ fun lk env _ _ hl hp => ?_
  obtain ⟨a, rfl⟩ := env_one hl
  have ha : a = st.reg 4 := hp 0 (show (0 : Int) < 1 by decide)
  subst ha
  show S.wpSs I 0 lk behind [_] _ st _ _ _
  rw [wpSs_c, wpS_bk, wpE_b, wpE_l, wpE_l]
  refine ⟨fun _ => by decide, _, rfl, ?_, vset_same _ _ _, rfl⟩
  show 1 + 2 + 1 + 1 + 1 + 1 + (if behind = true then 5 else 3) ≤ 99000
  split <;> omega
theorem real_num {n : Int} (hn : -2147483648 ≤ n ∧ n ≤ 4294967295) {i : Nat} (hs : S.Seg I S.kDouble i (S.bItems (S.rNum n))) (st : S.Vw) :
    S.Real I S.kDouble false st 16 (S.Gives st (n % 4294967296) 99000) := by
  refine real_of hI (S.rNum n) (chk_rNum hn) hs (dep := 0) (Int.le_refl _) st _ fun lk env _ _ hl hp => ?_
  show S.wpSs I 0 lk false [_] _ st _ _ _
  rw [wpSs_c, wpS_bk, wpE_c]
  refine ⟨_, rfl, ?_, vset_same _ _ _, rfl⟩
  show 1 + 2 + 2 + 1 + 3 ≤ 99000
  omega
theorem real_bin {op a b : Int} (ho : 1 ≤ op ∧ op ≤ 14) (ha : -2147483648 ≤ a ∧ a ≤ 4294967295) (hb : -2147483648 ≤ b ∧ b ≤ 4294967295) (hz : b % 4294967296 = 0 → op ≠ 5 ∧ op ≠ 6) {i : Nat} (hs : S.Seg I S.kDouble i (S.bItems (S.rBin op a b))) (st : S.Vw) :
    S.Real I S.kDouble false st 16 (S.Gives st (S.alu op (a % 4294967296) (b % 4294967296)) 99000) := by
  refine real_of hI (S.rBin op a b) (chk_rBin ho ha hb) hs (dep := 0) (Int.le_refl _) st _ fun lk env _ _ hl hp => ?_
  show S.wpSs I 0 lk false [_] _ st _ _ _
  rw [wpSs_c, wpS_bk, wpE_b, wpE_c, wpE_c]
  refine ⟨hz, _, rfl, ?_, vset_same _ _ _, rfl⟩
  show 1 + 2 + 2 + 2 + 1 + 1 + 3 ≤ 99000
  omega
theorem real_pow {i : Nat} (hs : S.Seg I S.kPower i (S.bItems S.rPow)) : ∀ (n : Nat) (st : S.Vw), n ≤ 31 → st.reg 4 = n → S.Real I S.kPower false st (16 * (n + 1)) (S.Gives st (2 ^ n) (100 * 2 ^ n - 60))
  | 0, st, _, h4 => by
    refine real_of hI S.rPow chk_rPow hs (dep := 0) (Int.le_refl _) st _ fun lk env _ _ hl hp => ?_
    obtain ⟨a, rfl⟩ := env_one hl
    have ha : a = st.reg 4 := hp 0 (show (0 : Int) < 1 by decide)
    rw [h4] at ha
    subst ha
    show S.wpSs I 0 lk false [_] _ st _ _ _
    rw [wpSs_c, wpS_if, wpE_q, wpE_l, wpE_c]
    rw [if_neg (by decide), wpSs_c, wpS_bk, wpE_c]
    refine ⟨_, rfl, ?_, vset_same _ _ _, rfl⟩
    show 1 + 2 + 1 + 2 + 3 + 4 + 2 + 1 + 3 ≤ 100 * 2 ^ 0 - 60
    omega
  | n + 1, st, hn, h4 => by
    have e16 : (16 : Int) * (((n + 1 : Nat) : Int) + 1) = 1 + 15 + 16 * ((n : Int) + 1) := by omega
    rw [e16]
    refine real_of hI S.rPow chk_rPow hs (dep := 16 * ((n : Int) + 1)) (by omega) st _ fun lk env _ _ hl hp => ?_
    obtain ⟨a, rfl⟩ := env_one hl
    have ha : a = st.reg 4 := hp 0 (show (0 : Int) < 1 by decide)
    rw [h4] at ha
    subst ha
    have hp2 : 2 ^ n ≤ 2 ^ 30 := Nat.pow_le_pow_right (by decide) (by omega)
    have hal : S.alu 2 (([((n + 1 : Nat) : Int)] : List Int).getD (0 : Int).toNat 0) (1 % 4294967296) = n := by
      show S.u32m (((n + 1 : Nat) : Int) - 1) = _
      unfold S.u32m
      omega
    have hR : ∀ st : S.Vw, S.Real I S.kPower false (st.args [(n : Int)]) (16 * ((n : Int) + 1)) (S.Gives (st.args [(n : Int)]) (2 ^ n) (100 * 2 ^ n - 60)) := fun st => real_pow hs n _ (by omega) (by simp [S.Vw.args])
    have hpos : 1 ≤ 2 ^ n := Nat.one_le_two_pow
    show S.wpSs I _ lk false [_] _ st _ _ _
    rw [wpSs_c, wpS_if, wpE_q, wpE_l, wpE_c]
    rw [if_neg (show ¬ (([((n + 1 : Nat) : Int)] : List Int).getD (0 : Int).toNat 0) = 0 % 4294967296 by show ¬ ((n + 1 : Nat) : Int) = 0; omega), if_pos rfl]
    rw [wpSs_c, wpS_bk, wpE_b, S.eAgain, wpE_f1, S.eLess, wpE_b, wpE_l, wpE_c]
    refine ⟨fun _ => by decide, ?_⟩
    rw [hal]
    refine ⟨_, _, hR _, Int.le_refl _, ?_⟩
    rintro ret o k ⟨st1, rfl, hk1, hv1, hm1⟩
    show S.wpE I _ lk _ (S.eF S.kPower [S.eB 2 (S.eL 0) (S.eC 1)]) (0 + 1) st1 _ _ _
    rw [wpE_f1, wpE_b, wpE_l, wpE_c]
    refine ⟨fun _ => by decide, ?_⟩
    rw [hal]
    refine ⟨_, _, hR _, Int.le_refl _, ?_⟩
    rintro ret2 o2 k2 ⟨st2, rfl, hk2, hv2, hm2⟩
    refine ⟨fun _ => by decide, _, rfl, ?_, ?_, ?_⟩
    · have e2 : 2 ^ (n + 1) = 2 * 2 ^ n := by rw [Nat.pow_succ]; omega
      rw [e2]
      show _ + _ + _ ≤ _
      simp only [List.length_cons, List.length_nil]
      have e1 : S.rPow.params.toNat = 1 := rfl
      rw [e1]
      simp
      omega
    · rw [vset_same, hv1, hv2]
      show S.u32m _ = _
      unfold S.u32m
      have e2 : (2 : Int) ^ (n + 1) = 2 * 2 ^ n := by rw [Int.pow_succ]; omega
      rw [e2]
      have e3 : ((2 ^ n : Nat) : Int) = (2 : Int) ^ n := by push_cast; rfl
      omega
    · show st2.mem = st.mem
      rw [hm2]
      exact hm1
theorem real_loop {i : Nat} (hs : S.Seg I S.kPower i (S.bItems S.rLoop)) {n : Nat} (hn : n ≤ 31) (st : S.Vw) (h4 : st.reg 4 = n) : S.Real I S.kPower false st 17 (S.Gives st (2 ^ n) 99000) := by
  refine real_of hI S.rLoop chk_rLoop hs (dep := 0) (Int.le_refl _) st _ fun lk env _ _ hl hp => ?_
  obtain ⟨a, b, rfl⟩ := env_two hl
  have ha : a = st.reg 4 := hp 0 (show (0 : Int) < 1 by decide)
  rw [h4] at ha
  subst ha
  have e1 : S.rLoop.params.toNat = 1 := rfl
  rw [e1]
  show S.wpSs I 0 lk false [_, _, _] _ st _ _ _
  rw [wpSs_c, wpS_as, wpE_c, wpSs_c, wpS_wh]
  refine ⟨fun env st' c k => ∃ x : Nat, env = [(k : Int), (2 : Int) ^ x] ∧ k + x = n ∧ st' = st ∧ c ≤ 10 + 20 * x, ⟨n, 0, rfl, by omega, rfl, by omega⟩, ?_⟩
  rintro env st' c k ⟨x, rfl, hkx, rfl, hc⟩
  rw [wpE_l]
  show if (k : Int) = 0 then _ else _
  by_cases hk : k = 0
  · subst hk
    rw [if_pos (show ((0 : Nat) : Int) = 0 from rfl), wpSs_c, wpS_bk, wpE_l]
    have e : x = n := by omega
    subst e
    refine ⟨_, rfl, ?_, vset_same _ _ _, rfl⟩
    show c + 1 + 4 + 1 + 1 + 3 ≤ 99000
    omega
  · rw [if_neg (by omega), wpSs_c, wpS_as, wpE_b, wpE_l, wpE_l]
    refine ⟨fun _ => by decide, ?_⟩
    rw [wpSs_c, wpS_as, S.eLess, wpE_b, wpE_l, wpE_c]
    refine ⟨fun _ => by decide, ?_⟩
    rw [wpSs_0]
    have hx : (2 : Nat) ^ x ≤ 2 ^ 30 := Nat.pow_le_pow_right (by decide) (by omega)
    have e3 : ((2 ^ x : Nat) : Int) = (2 : Int) ^ x := by push_cast; rfl
    have e4 : (0 : Int) ≤ ((2 ^ x : Nat) : Int) := Int.natCast_nonneg _
    have hu : S.alu 1 ((2 : Int) ^ x) ((2 : Int) ^ x) = 2 ^ (x + 1) := by
      show S.u32m _ = _
      unfold S.u32m
      rw [Int.pow_succ]
      omega
    have hv : S.alu 2 (k : Int) (1 % 4294967296) = ((k - 1 : Nat) : Int) := by
      show S.u32m ((k : Int) - 1) = _
      unfold S.u32m
      omega
    refine ⟨k - 1, by omega, x + 1, ?_, by omega, rfl, by omega⟩
    show [S.alu 2 (k : Int) (1 % 4294967296), S.alu 1 ((2 : Int) ^ x) ((2 : Int) ^ x)] = _
    rw [hu, hv]
end

end Go.Proofs.YtlldagdhlfpihaaGreatDoor
end

section
set_option linter.unusedVariables false
set_option linter.unusedSimpArgs false
set_option linter.unusedSectionVars false
namespace Go.Proofs.YtlldagdhlfpihaaGreatDoor
open Go.RowKit

/-- A routine that can be linked behind a start. -/
structure AnsOk (r : S.BR) : Prop where
  chk : S.chkB r = 0
  tells : ([S.kStart, S.kLink, S.kAfter] ++ (S.tells (S.bItems r)).map (S.owned r.name)).Nodup
  names : ∀ s ∈ r.name :: (S.names (S.bItems r)).map (S.owned r.name), s ∈ [S.kStart, S.kLink, S.kAfter] ++ (S.tells (S.bItems r)).map (S.owned r.name)
  bulk : S.bulk (S.bItems r) ≤ 2900
  labs : ∀ y ∈ S.bItems r, y.label.size ≤ 100
  nsz : r.name.size ≤ 100
  len : (S.bItems r).length ≤ 1000
  nm : r.name ≠ S.kStart
  sz : szSs r.body ≤ 1000000
  words : ∀ x ∈ S.bItems r, 0 ≤ x.word ∧ x.word ≤ 4294967295


/-- Instructions alone. -/
def Plain1 (l : List S.Item) : Prop := ∀ x ∈ l, x.kind = 1 ∧ x.label = S.bNo ∧ x.word = 0
theorem plain1_append {a b : List S.Item} (ha : Plain1 a) (hb : Plain1 b) : Plain1 (a ++ b) := fun x hx => (List.mem_append.1 hx).elim (ha x) (hb x)
theorem plain1_const (d n : Int) : Plain1 (S.bConst d n) := by
  unfold S.bConst
  split <;> intro x hx <;> simp [S.bI] at hx
  · subst hx; exact ⟨rfl, rfl, rfl⟩
  · rcases hx with rfl | rfl <;> exact ⟨rfl, rfl, rfl⟩
theorem plain1_cons {op d a b i : Int} {l : List S.Item} (h : Plain1 l) : Plain1 (S.bI op d a b i :: l) := fun x hx => by
  rcases List.mem_cons.1 hx with rfl | hx
  · exact ⟨rfl, rfl, rfl⟩
  · exact h x hx
theorem plain1_nil : Plain1 [] := fun x hx => by cases hx
theorem plain1_facts {l : List S.Item} (h : Plain1 l) : S.tells l = [] ∧ S.names l = [] ∧ S.bulk l = 4 * l.length := by
  induction l with
  | nil => exact ⟨rfl, rfl, rfl⟩
  | cons x r ih =>
    obtain ⟨h1, h2, h3⟩ := ih fun y hy => h y (List.mem_cons_of_mem _ hy)
    have hk := (h x List.mem_cons_self).1
    refine ⟨?_, ?_, ?_⟩
    · rw [S.tells, if_neg (by rw [hk]; decide), h1]
    · rw [S.names, if_neg (by unfold S.named; rw [hk]; decide), h2]
    · rw [S.bulk, if_neg (by rw [hk]; decide), h3, List.length_cons]; omega
theorem const_len (d n : Int) : (S.bConst d n).length ≤ 2 := by
  unfold S.bConst
  split <;> simp
/-- A routine that is one label and instructions. -/
theorem ans_flat {r : S.BR} {rest : List S.Item} (hc : S.chkB r = 0) (e : S.bItems r = S.bL r.name :: rest) (hp : Plain1 rest) (hl : rest.length ≤ 700) (hn : r.name.size ≤ 100)
    (hs : r.name ≠ S.kStart ∧ r.name ≠ S.kLink ∧ r.name ≠ S.kAfter) (hz : szSs r.body ≤ 1000000) : AnsOk r := by
  obtain ⟨h1, h2, h3⟩ := plain1_facts hp
  have hlab := (chkB_parts hc).1
  have ho : S.owned r.name r.name = r.name := owned_no _ hlab
  have ht : S.tells (S.bItems r) = [r.name] := by
    rw [e, S.tells, if_pos (show (S.bL r.name).kind = 2 from rfl), h1]
    rfl
  have hm : S.names (S.bItems r) = [] := by
    rw [e, S.names, if_neg (show ¬ S.named (S.bL r.name) = true by unfold S.named S.bL; simp), h2]
  refine ⟨hc, ?_, ?_, ?_, ?_, hn, ?_, hs.1, hz, ?_⟩
  · rw [ht]
    show (S.kStart :: S.kLink :: S.kAfter :: [S.owned r.name r.name]).Nodup
    rw [ho]
    have e1 : S.kStart ≠ S.kLink := by decide
    have e2 : S.kStart ≠ S.kAfter := by decide
    have e3 : S.kLink ≠ S.kAfter := by decide
    simp [e1, e2, e3, Ne.symm hs.1, Ne.symm hs.2.1, Ne.symm hs.2.2]
  · rw [hm, ht]
    show ∀ s ∈ [r.name], s ∈ [S.kStart, S.kLink, S.kAfter] ++ [S.owned r.name r.name]
    rw [ho]
    simp
  · rw [e, S.bulk, if_neg (show ¬ (S.bL r.name).kind = 8 by unfold S.bL; simp), h3]; omega
  · rw [e]
    intro y hy
    rcases List.mem_cons.1 hy with rfl | hy
    · exact hn
    · rw [(hp y hy).2.1]; decide
  · rw [e, List.length_cons]; omega
  · rw [e]
    intro y hy
    rcases List.mem_cons.1 hy with rfl | hy
    · exact ⟨Int.le_refl 0, show (0 : Int) ≤ 4294967295 by decide⟩
    · rw [(hp y hy).2.2]; decide

theorem items_dbl (behind : Bool) : ∃ rest, S.bItems (S.rDbl behind) = S.bL (S.rDbl behind).name :: rest ∧ Plain1 rest ∧ rest.length ≤ 700 := by
  cases behind
  · refine ⟨(S.bItems (S.rDbl false)).tail, by kernel_rfl, ?_, of_decide_eq_true (by kernel_rfl)⟩
    exact of_decide_eq_true (p := ∀ x ∈ (S.bItems (S.rDbl false)).tail, x.kind = 1 ∧ x.label = S.bNo ∧ x.word = 0) (by kernel_rfl)
  · refine ⟨(S.bItems (S.rDbl true)).tail, by kernel_rfl, ?_, of_decide_eq_true (by kernel_rfl)⟩
    exact of_decide_eq_true (p := ∀ x ∈ (S.bItems (S.rDbl true)).tail, x.kind = 1 ∧ x.label = S.bNo ∧ x.word = 0) (by kernel_rfl)
theorem ans_dbl (behind : Bool) : AnsOk (S.rDbl behind) := by
  obtain ⟨rest, h1, h2, h3⟩ := items_dbl behind
  exact ans_flat (chk_rDbl behind) h1 h2 h3 (by show S.kDouble.size ≤ 100; decide) ⟨by show S.kDouble ≠ _; decide, by show S.kDouble ≠ _; decide, by show S.kDouble ≠ _; decide⟩ (by cases behind <;> exact of_decide_eq_true (by kernel_rfl))
theorem ans_num {n : Int} (h : -2147483648 ≤ n ∧ n ≤ 4294967295) : AnsOk (S.rNum n) := by
  have hc := chk_rNum h
  have hf : S.frameB (S.rNum n) = 16 := by unfold S.frameB; rw [if_neg (by rw [hc]; simp)]; rfl
  refine ans_flat (rest := [S.bI 25 0 28 31 0, S.bI 25 0 28 4 1, S.bI 15 28 28 0 16] ++ (S.bConst 11 n ++ ([S.bMove 4 11, S.bPop 16, S.bI 24 31 28 0 0, S.bI 33 0 31 0 0] ++ [S.bPop 16, S.bI 24 31 28 0 0, S.bI 33 0 31 0 0]))) hc ?_ ?_ ?_ (by show S.kDouble.size ≤ 100; decide) ⟨by show S.kDouble ≠ _; decide, by show S.kDouble ≠ _; decide, by show S.kDouble ≠ _; decide⟩ ?_
  · unfold S.bItems S.bHead
    rw [hf]
    simp [S.rNum, S.rD, S.bParams, S.bStmts, S.bStmt, S.sBk, S.sRet, S.eC, S.bExprs, S.bExpr, S.bOp, S.bRegs, S.bBack]
  · refine plain1_append (plain1_cons (plain1_cons (plain1_cons plain1_nil))) (plain1_append (plain1_const _ _) ?_)
    intro x hx
    simp [S.bMove, S.bPop, S.bI] at hx
    rcases hx with rfl | rfl | rfl | rfl | rfl | rfl | rfl <;> exact ⟨rfl, rfl, rfl⟩
  · have := const_len 11 n
    simp only [List.length_append, List.length_cons, List.length_nil]; omega
  · simp [S.rNum, S.rD, S.sBk, S.sRet, S.eC, szSs, szS, szEs, szE]
theorem ans_bin {op a b : Int} (ho : 1 ≤ op ∧ op ≤ 14) (ha : -2147483648 ≤ a ∧ a ≤ 4294967295) (hb : -2147483648 ≤ b ∧ b ≤ 4294967295) : AnsOk (S.rBin op a b) := by
  have hc := chk_rBin ho ha hb
  have hf : S.frameB (S.rBin op a b) = 16 := by unfold S.frameB; rw [if_neg (by rw [hc]; simp)]; rfl
  refine ans_flat (rest := [S.bI 25 0 28 31 0, S.bI 25 0 28 4 1, S.bI 15 28 28 0 16] ++ (S.bConst 11 a ++ (S.bConst 12 b ++ ([S.bI op 11 11 12 0, S.bMove 4 11, S.bPop 16, S.bI 24 31 28 0 0, S.bI 33 0 31 0 0] ++ [S.bPop 16, S.bI 24 31 28 0 0, S.bI 33 0 31 0 0])))) hc ?_ ?_ ?_ (by show S.kDouble.size ≤ 100; decide) ⟨by show S.kDouble ≠ _; decide, by show S.kDouble ≠ _; decide, by show S.kDouble ≠ _; decide⟩ ?_
  · unfold S.bItems S.bHead
    rw [hf]
    simp [S.rBin, S.rD, S.bParams, S.bStmts, S.bStmt, S.sBk, S.sRet, S.eC, S.eB, S.bExprs, S.bExpr, S.bOp, S.bRegs, S.bBack]
  · refine plain1_append (plain1_cons (plain1_cons (plain1_cons plain1_nil))) (plain1_append (plain1_const _ _) (plain1_append (plain1_const _ _) ?_))
    intro x hx
    simp [S.bMove, S.bPop, S.bI] at hx
    rcases hx with rfl | rfl | rfl | rfl | rfl | rfl | rfl | rfl <;> exact ⟨rfl, rfl, rfl⟩
  · have := const_len 11 a
    have := const_len 12 b
    simp only [List.length_append, List.length_cons, List.length_nil]; omega
  · simp [S.rBin, S.rD, S.sBk, S.sRet, S.eC, S.eB, szSs, szS, szEs, szE]
theorem all_in {a b : List ByteArray} (h : (a.all fun s => b.any fun x => x.data.toList == s.data.toList) = true) : ∀ s ∈ a, s ∈ b := fun s hs => by
  obtain ⟨x, hx, he⟩ := List.any_eq_true.1 (List.all_eq_true.1 h s hs)
  have e : x.data.toList = s.data.toList := by simpa using he
  have : x = s := by
    cases x
    cases s
    congr
    exact Array.toList_inj.1 e
  exact this ▸ hx
theorem ans_pow : AnsOk S.rPow :=
  ⟨chk_rPow, of_decide_eq_true (by kernel_rfl), all_in (by kernel_rfl), of_decide_eq_true (by kernel_rfl), of_decide_eq_true (by kernel_rfl), of_decide_eq_true (by kernel_rfl), of_decide_eq_true (by kernel_rfl), of_decide_eq_true (by kernel_rfl), of_decide_eq_true (by kernel_rfl), of_decide_eq_true (by kernel_rfl)⟩
theorem ans_loop : AnsOk S.rLoop :=
  ⟨chk_rLoop, of_decide_eq_true (by kernel_rfl), all_in (by kernel_rfl), of_decide_eq_true (by kernel_rfl), of_decide_eq_true (by kernel_rfl), of_decide_eq_true (by kernel_rfl), of_decide_eq_true (by kernel_rfl), of_decide_eq_true (by kernel_rfl), of_decide_eq_true (by kernel_rfl), of_decide_eq_true (by kernel_rfl)⟩

end Go.Proofs.YtlldagdhlfpihaaGreatDoor
end

section
set_option linter.unusedVariables false
set_option linter.unusedSimpArgs false
set_option linter.unusedSectionVars false
namespace Go.Proofs.YtlldagdhlfpihaaGreatDoor
open Go.RowKit

theorem wordOf_bd (y : S.Inst) : 0 ≤ S.wordOf y ∧ S.wordOf y ≤ 4294967295 := by
  unfold S.wordOf
  split
  · rename_i h; exact enc_bd h
  · omega
/-- Words of an item are words. -/
theorem words_bd {x : S.Item} (hw : 0 ≤ x.word ∧ x.word ≤ 4294967295) (form at_ tt : Int) : ∀ v ∈ S.wordsOf x form at_ tt, 0 ≤ v ∧ v ≤ 4294967295 := by
  unfold S.wordsOf S.lui S.ori
  intro v hv
  split at hv
  · simp only [List.mem_singleton] at hv; subst hv; exact wordOf_bd _
  split at hv
  · simp only [List.mem_singleton] at hv; subst hv; exact wordOf_bd _
  split at hv
  · simp only [List.mem_cons, List.not_mem_nil, or_false] at hv
    rcases hv with rfl | rfl <;> exact wordOf_bd _
  split at hv
  · simp only [List.mem_cons, List.not_mem_nil, or_false] at hv
    rcases hv with rfl | rfl | rfl | rfl <;> exact wordOf_bd _
  split at hv
  · simp only [List.mem_singleton] at hv; subst hv; exact wordOf_bd _
  split at hv
  · simp only [List.mem_cons, List.not_mem_nil, or_false] at hv
    rcases hv with rfl | rfl | rfl <;> exact wordOf_bd _
  split at hv
  · simp only [List.mem_cons, List.not_mem_nil, or_false] at hv
    rcases hv with rfl | rfl <;> exact wordOf_bd _
  split at hv
  · simp only [List.mem_singleton] at hv; subst hv; exact hw
  split at hv
  · simp only [List.mem_singleton] at hv; subst hv; omega
  split at hv
  · have := List.eq_of_mem_replicate hv; subst this; omega
  · cases hv
theorem outTo_words {xs : List S.Item} {F : List Int} {base : Int} (hw : ∀ x ∈ xs, 0 ≤ x.word ∧ x.word ≤ 4294967295) : ∀ i : Nat, ∀ v ∈ S.outTo xs F base i, 0 ≤ v ∧ v ≤ 4294967295
  | 0 => fun v hv => by cases hv
  | i + 1 => fun v hv => by
    rw [S.outTo] at hv
    rcases List.mem_append.1 hv with hv | hv
    · exact outTo_words hw i v hv
    · unfold S.wordsAt at hv
      split at hv
      · cases hv
      · rename_i x hx
        exact words_bd (hw x (List.mem_of_getElem? hx)) _ _ _ v hv

theorem sItems_facts {name : ByteArray} (h : name.size ≤ 100) (b : Bool) : (∀ x ∈ S.sItems name b, 0 ≤ x.word ∧ x.word ≤ 4294967295) ∧ ∀ y ∈ S.sItems name b, y.label.size ≤ 100 := by
  have h1 : S.kStart.size ≤ 100 := by decide
  have h2 : S.kLink.size ≤ 100 := by decide
  have h3 : S.kAfter.size ≤ 100 := by decide
  have h4 : S.bNo.size ≤ 100 := by decide
  cases b <;> simp [S.sItems, S.sWords, S.bL, S.bJ, S.bI, S.bW, h, h1, h2, h3, h4]
/-- Such a routine is linked. -/
theorem link_ans {r : S.BR} (hk : AnsOk r) {e : Int} {L : List Int} {Q : List (ByteArray × Int)} (h : LinkRes (S.ansObjs r) 0 e L Q) : e = 0 ∧ ∃ F, S.FormsRes (S.joined (S.ansObjs r)) 0 0 F ∧ L = S.outTo (S.joined (S.ansObjs r)) F 0 (S.joined (S.ansObjs r)).length := by
  have hw : ∀ x ∈ S.joined (S.ansObjs r), 0 ≤ x.word ∧ x.word ≤ 4294967295 := by
    rw [joined_ans]
    intro x hx
    rcases List.mem_append.1 hx with hx | hx
    · obtain ⟨y, hy, rfl⟩ := List.mem_map.1 hx
      exact (sItems_facts hk.nsz r.behind).1 y hy
    · obtain ⟨y, hy, rfl⟩ := List.mem_map.1 hx
      exact hk.words y hy
  have hb : S.badN ⟨r.name, S.bItems r⟩ = false := by
    have hn := (chkB_parts hk.chk).1
    unfold S.labB S.dotted at hn
    unfold S.badN S.ownB
    simp only [Bool.and_eq_true, decide_eq_true_eq, Bool.not_eq_true'] at hn
    rw [hn.2, Bool.or_false]
    have h0 : r.name.data.toList ≠ [] := fun e => hn.1 (by
      show r.name.data.size = 0
      rw [← Array.length_toList, e]
      rfl)
    simpa using h0
  have hN : S.NamesRes (S.ansObjs r) 0 := by
    refine .inr (.inr ⟨?_, ?_, rfl⟩)
    · rintro ⟨i, j, a, b, hij, hi, hj, hab⟩
      have hl := (List.getElem?_eq_some_iff.1 hi).1
      have : i < 2 := hl
      have hi1 : i = 1 := by omega
      have hj0 : j = 0 := by omega
      subst hi1 hj0
      simp [S.ansObjs] at hi hj
      subst hi hj
      exact hk.nm hab
    · intro o ho
      simp [S.ansObjs] at ho
      rcases ho with rfl | rfl
      · rfl
      · exact hb
  rcases h with ⟨h1, h2, _⟩ | ⟨_, F, h1, h2, _⟩
  · exact absurd (namesRes_fun h2 hN) h1
  · obtain ⟨rfl, _, _⟩ := ans_res hk.chk hk.tells hk.names hk.bulk h1 hw
    rw [if_pos rfl] at h2
    exact ⟨rfl, F, h1, h2⟩


/-- What a machine makes of such a routine and its start. -/
theorem ans_all {r : S.BR} (hk : AnsOk r) {e : Int} {T : List Int} {U : List (ByteArray × Int)} (h : LinkRes (S.ansObjs r) 0 e T U) {n v : Int} (hn : 0 ≤ n ∧ n ≤ 4294967295)
    (hreal : ∀ (I : S.Img) (i : Nat), I.Ok → S.Seg I r.name i (S.bItems r) → ∀ st : S.Vw, st.reg 4 = n → ∃ d R, d ≤ 1000 ∧ S.Real I r.name r.behind st d R ∧ ∀ ret o k, R ret o k → ∃ st', o = .ret st' ∧ k ≤ 99000 ∧ st'.reg 4 = v ∧ st'.mem = st.mem) :
    e = 0 ∧ T.length ≤ 2940 ∧ (∀ x ∈ T, 0 ≤ x ∧ x ≤ 4294967295) ∧ ((S.ansMach T n).steps_ 100000).state = 1 ∧ ((S.ansMach T n).steps_ 100000).rd 28 = 3000 ∧ ((S.ansMach T n).steps_ 100000).rd 4 = v := by
  have hw : ∀ x ∈ S.joined (S.ansObjs r), 0 ≤ x.word ∧ x.word ≤ 4294967295 := by
    rw [joined_ans]
    intro x hx
    rcases List.mem_append.1 hx with hx | hx
    · obtain ⟨y, hy, rfl⟩ := List.mem_map.1 hx
      exact (sItems_facts hk.nsz r.behind).1 y hy
    · obtain ⟨y, hy, rfl⟩ := List.mem_map.1 hx
      exact hk.words y hy
  obtain ⟨rfl, F, hF, hT⟩ := link_ans hk h
  obtain ⟨-, hI, ha⟩ := ans_res hk.chk hk.tells hk.names hk.bulk hF hw
  have hb : ∀ x ∈ T, 0 ≤ x ∧ x ≤ 4294967295 := by rw [hT]; exact outTo_words hw _
  have hl : T.length ≤ 2940 := by
    have h2 : ((S.outTo (S.joined (S.ansObjs r)) F 0 (S.joined (S.ansObjs r)).length).length : Int) = S.addr (S.joined (S.ansObjs r)) F 0 (S.joined (S.ansObjs r)).length - 0 := outTo_length (base := 0) (img_forms hI) (kinds_ok (img_first hI)) hI.words (S.joined (S.ansObjs r)).length
    rw [hT]
    omega
  obtain ⟨d, R, hd, hr, hR⟩ := hreal _ _ hI seg_ans (S.viewOf (S.ansMach T n)) (ansMach_reg T n).2
  exact ⟨rfl, hl, hb, ans_run hk.chk hI ha hT hb hn hd hr hR⟩

end Go.Proofs.YtlldagdhlfpihaaGreatDoor
end
