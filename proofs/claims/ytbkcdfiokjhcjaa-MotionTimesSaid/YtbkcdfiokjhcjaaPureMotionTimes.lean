/- MotionTimes: nothing is left to show. -/
import Derived.Test.YtbkcdfiokjhcjaaL8
namespace Go.Proofs.Ytbkcdfiokjhcjaa.Pure
theorem MotionTimes : P.tallymanlaw04_MotionTimes.Pure := trivial
end Go.Proofs.Ytbkcdfiokjhcjaa.Pure
