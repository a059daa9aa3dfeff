import Derived.Test.YtbkcdfiokjhcjaaL4
namespace Go.Proofs.Ytbkcdfiokjhcjaa.Pure
open Go.RowKit Go.Proofs.Ytbkcdfiokjhcjaa.P Go.Proofs.YtbkcdfiokjhcjaaW.PrintWords Go.Proofs.YtbkcdfiokjhcjaaW.PrintLast
/-- The walk needs nothing else. -/
theorem GaussOps : tallymanlaw03_GaussOps.Pure := trivial
end Go.Proofs.Ytbkcdfiokjhcjaa.Pure
