/- Parts. -/
import Derived.Test.YtdeepoikgfaecaaGreatDoorChecked
namespace Go.Proofs.YtdeepoikgfaecaaGreatDoor
theorem Yx {a:Sort _}(x:a):∃ y,y=x:=⟨x,rfl⟩
end Go.Proofs.YtdeepoikgfaecaaGreatDoor
