/- The shelf's contracts of strings.Builder, at this translation's numbers. -/
import Derived.Shelf.Strings.BuilderF
import Derived.Test.YtikhjnokfakgiaaProg
namespace Go.Proofs
open Go.Shelf Go.RowKit
end Go.Proofs
