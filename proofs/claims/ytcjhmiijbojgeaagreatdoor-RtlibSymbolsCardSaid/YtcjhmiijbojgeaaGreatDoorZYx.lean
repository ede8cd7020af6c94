/- Parts. -/
import Derived.Test.YtcjhmiijbojgeaaGreatDoorChecked
namespace Go.Proofs.YtcjhmiijbojgeaaGreatDoor
theorem Yx {a:Sort _}(x:a):∃y,y=x:=⟨x,rfl⟩
theorem Y_c {p:Prop}(h:¬p->False):p:=Classical.byContradiction h
theorem Y_f (fn:Fn)(first cap:Array Value)(w:World):(Instr.makeFunc fn first cap).run Tryz.prog w=.ok (.func fn first cap) w:=rfl
