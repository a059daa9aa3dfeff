import Derived.Test.YtbkcdfiokjhcjaaL3b
namespace Go.Proofs.Ytbkcdfiokjhcjaa.Pure
open Go.RowKit Go.Proofs.Ytbkcdfiokjhcjaa.P Go.Proofs.YtbkcdfiokjhcjaaW.PrintWords Go.Proofs.YtbkcdfiokjhcjaaW.PrintLast
/-- The walk needs nothing else. -/
theorem GaussRing : tallymanlaw03_GaussRing.Pure := trivial
end Go.Proofs.Ytbkcdfiokjhcjaa.Pure
