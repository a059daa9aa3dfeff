/- MotionLaws: nothing is left to show. -/
import Derived.Test.YtbkcdfiokjhcjaaL10
namespace Go.Proofs.Ytbkcdfiokjhcjaa.Pure
theorem MotionLaws : P.tallymanlaw04_MotionLaws.Pure := trivial
end Go.Proofs.Ytbkcdfiokjhcjaa.Pure
