/- AgeRises: nothing is left to show. -/
import Derived.Test.YtopblnecdabcgaaL4
namespace Go.Proofs.Ytopblnecdabcgaa.Pure
theorem AgeRises : P.tallymanlaw14_AgeRises.Pure := trivial
end Go.Proofs.Ytopblnecdabcgaa.Pure
