/- Two short names, for long rows of true and false. -/
import Derived.Test.YtfncppekjgbedaaDoorWMore
namespace Go.Proofs.YtfncppekjgbedaaDoor.Ext
abbrev T : Bool := true
abbrev F : Bool := false
end Go.Proofs.YtfncppekjgbedaaDoor.Ext
