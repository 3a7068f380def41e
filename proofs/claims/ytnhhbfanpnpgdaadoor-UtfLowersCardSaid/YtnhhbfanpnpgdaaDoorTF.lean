/- Two short names, for long rows of true and false. -/
import Derived.Test.YtnhhbfanpnpgdaaDoorWMore
namespace Go.Proofs.YtnhhbfanpnpgdaaDoor.Ext
abbrev T : Bool := true
abbrev F : Bool := false
end Go.Proofs.YtnhhbfanpnpgdaaDoor.Ext
