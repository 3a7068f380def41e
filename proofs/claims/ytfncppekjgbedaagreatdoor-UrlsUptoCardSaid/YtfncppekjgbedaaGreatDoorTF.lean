/- Two short names, for long rows of true and false. -/
import Derived.Test.YtfncppekjgbedaaGreatDoorWMore
namespace Go.Proofs.YtfncppekjgbedaaGreatDoor.Ext
abbrev T : Bool := true
abbrev F : Bool := false
end Go.Proofs.YtfncppekjgbedaaGreatDoor.Ext
