/- Two short names, for long rows of true and false. -/
import Derived.Test.YtfabijpafbhdbaaDoorWMore
namespace Go.Proofs.YtfabijpafbhdbaaDoor.Ext
abbrev T : Bool := true
abbrev F : Bool := false
end Go.Proofs.YtfabijpafbhdbaaDoor.Ext
