/- Two short names, for long rows of true and false. -/
import Derived.Test.YtnhhbfanpnpgdaaWMore
namespace Go.Proofs.Ytnhhbfanpnpgdaa.Ext
abbrev T : Bool := true
abbrev F : Bool := false
end Go.Proofs.Ytnhhbfanpnpgdaa.Ext
