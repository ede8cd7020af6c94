/- Parts. -/
import Derived.Test.YtfhiobkkdcdmiaaGreatDoorChecked
namespace Go.Proofs.YtfhiobkkdcdmiaaGreatDoor
theorem Yx {a:Sort _}(x:a):∃ y,y=x:=⟨x,rfl⟩
end Go.Proofs.YtfhiobkkdcdmiaaGreatDoor
