/- MotionFinds: nothing is left to show. -/
import Derived.Test.YtbkcdfiokjhcjaaL13
namespace Go.Proofs.Ytbkcdfiokjhcjaa.Pure
theorem MotionFinds : P.tallymanlaw04_MotionFinds.Pure := trivial
end Go.Proofs.Ytbkcdfiokjhcjaa.Pure
