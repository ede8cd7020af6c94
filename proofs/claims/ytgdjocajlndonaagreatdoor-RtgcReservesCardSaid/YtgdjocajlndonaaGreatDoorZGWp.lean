/- Parts. -/
import Derived.Test.YtgdjocajlndonaaGreatDoorZGMov
set_option linter.all false
namespace Go.Proofs.YtgdjocajlndonaaGreatDoor
section
open Go.RowKit
theorem Zvh {I:S.Img}{V V':S.Vw}{a c:Int}{K N:Nat}(h:S.GoH I V a K V' c)(hK:K<=N){m:S.Mach}(hm:S.On I m V a):S.Off I (m.steps_ N) V' c:=by
 obtain ⟨k,hk,ho⟩:=h m hm;obtain ⟨d,rfl⟩:∃ d,N=k+d:=⟨N-k,by omega⟩
 rw [Zcf,Zfn (by rw [ho.end_];decide)];exact ho
end
section
open Go.RowKit
namespace S
end S
section
variable {I:S.Img}{dep lk:Int}{env:List Int}{at_:Nat}{st:S.Vw}{c:Nat}{Q:Int->S.Vw->Nat->Prop}{H:Int->S.Vw->Nat->Prop}
end
section
variable {I:S.Img}{dep lk:Int}{behind:Bool}{env:List Int}{st:S.Vw}{c:Nat}{Q:List Int->S.Vw->Nat->Prop}{R:S.BO->Nat->Prop}
theorem Z0y (e:S.BE):S.wpS I dep lk behind (S.sHlt e) env st c Q R=S.wpE I dep lk env e 0 st c (fun v st1 c1=>R (.halt v st1) (c1+1)) (fun code st c=>R (.halt code st) c):=by
 rw [S.sHlt,S.wpS,if_neg (by decide),Zhh];refine congrArg (fun q=>S.wpE I dep lk env e 0 st c q _) (funext fun v=>funext fun st1=>funext fun c1=>?_);rw [if_neg (by decide),if_neg (by decide),if_neg (by decide),if_neg (by decide),if_neg (by decide),if_neg (by decide),if_pos rfl];rfl
end
end
section
open Go.RowKit
namespace S
end S
section
variable {I:S.Img}{dep lk:Int}
section
variable {env:List Int}{st:S.Vw}
end
section
variable {behind:Bool}{env:List Int}{st:S.Vw}{c:Nat}{Q:List Int->S.Vw->Nat->Prop}{R:S.BO->Nat->Prop}
theorem Z2r {e:S.BE}{r:List S.BS}(hp:S.pureE e=true)(hok:S.okE I lk env st e)(h:R (.halt (S.evE I lk env st e) st) (c+S.coE e+1)):S.wpSs I dep lk behind (S.sHlt e::r) env st c Q R:=by
 rw [Zfi,Z0y];exact Zbh hp hok h
end
end
end
end Go.Proofs.YtgdjocajlndonaaGreatDoor
