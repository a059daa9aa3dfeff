/- AgeKeeps: nothing is left to show. -/
import Derived.Test.YtopblnecdabcgaaL5
namespace Go.Proofs.Ytopblnecdabcgaa.Pure
theorem AgeKeeps : P.tallymanlaw14_AgeKeeps.Pure := trivial
end Go.Proofs.Ytopblnecdabcgaa.Pure
