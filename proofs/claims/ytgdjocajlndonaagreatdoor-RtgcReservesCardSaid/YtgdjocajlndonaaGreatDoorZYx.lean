/- Parts. -/
import Derived.Test.YtgdjocajlndonaaGreatDoorChecked
namespace Go.Proofs.YtgdjocajlndonaaGreatDoor
theorem Yx {a:Sort _}(x:a):∃ y,y=x:=⟨x,rfl⟩
end Go.Proofs.YtgdjocajlndonaaGreatDoor
