/- MotionDoes: nothing is left to show. -/
import Derived.Test.YtbkcdfiokjhcjaaL7
namespace Go.Proofs.Ytbkcdfiokjhcjaa.Pure
theorem MotionDoes : P.tallymanlaw04_MotionDoes.Pure := trivial
end Go.Proofs.Ytbkcdfiokjhcjaa.Pure
