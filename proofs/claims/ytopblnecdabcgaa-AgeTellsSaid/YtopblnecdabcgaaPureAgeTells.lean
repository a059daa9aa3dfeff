/- AgeTells: nothing is left to show. -/
import Derived.Test.YtopblnecdabcgaaL3
namespace Go.Proofs.Ytopblnecdabcgaa.Pure
theorem AgeTells : P.tallymanlaw14_AgeTells.Pure := trivial
end Go.Proofs.Ytopblnecdabcgaa.Pure
