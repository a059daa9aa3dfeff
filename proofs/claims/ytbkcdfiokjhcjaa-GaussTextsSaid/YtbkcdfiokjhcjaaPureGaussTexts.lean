import Derived.Test.YtbkcdfiokjhcjaaL11
namespace Go.Proofs.Ytbkcdfiokjhcjaa.Pure
open Go.RowKit Go.Proofs.Ytbkcdfiokjhcjaa.P Go.Proofs.YtbkcdfiokjhcjaaW.PrintWords Go.Proofs.YtbkcdfiokjhcjaaW.PrintLast
/-- The walk needs nothing else. -/
theorem GaussTexts : tallymanlaw03_GaussTexts.Pure := trivial
end Go.Proofs.Ytbkcdfiokjhcjaa.Pure
