/- Parts. -/
import Derived.Test.YtgdjocajlndonaaGreatDoorZGStu
import Derived.Test.YtgdjocajlndonaaGreatDoorZKSet
set_option linter.all false
namespace Go.Proofs.YtgdjocajlndonaaGreatDoor
open Go.RowKit
section
variable {w w':World}{F:Nat->Prop}{lo b p_:Nat}{H half:Int}{P:List (ByteArray×Int)}{m:S.Mach}
end
theorem Zl8 {w:World}{F:Nat->Prop}{lo b p:Nat}{H half:Int}{P:List (ByteArray×Int)}{MM:S.Mach}{nm:ByteArray}{ca stub:Int}(hK:KAt w lo b p F H half P MM)(hs:S.findP P nm=some ca)(hst:S.findP P S.kStub=some stub)(ha:0<=ca/\ca<=67108864)(hst2:0<=stub/\stub<=67108864)(h0:MM.state=0)(h1:MM.out=[])(h2:MM.steps=0){C:S.Mach}(hC:((MM.setV 31 stub).goV ca).steps_ 200000=C){R:Int}(hR:S.aq C stub=R) :
 Calls Tryz.prog 14 #[.pointer (some ⟨b,0,none⟩),.string nm,.bool false,.int .i64 200000] w fun e w'=>e=.returned (.int .i64 R)/\Zzh w lo b p F H half P C w':=by
 have h:=Zvy nm 200000 ca stub hK hs hst ⟨ha.1,Int.le_trans ha.2 (by decide)⟩ ⟨hst2.1,Int.le_trans hst2.2 (by decide)⟩ h0 h1 h2 (by decide);have e:S.bl MM stub ca 200000=C:=by
  unfold S.bl;rw [show (200000:Int).toNat=200000 from rfl];exact hC
 rw [e,hR] at h;exact h
end Go.Proofs.YtgdjocajlndonaaGreatDoor
