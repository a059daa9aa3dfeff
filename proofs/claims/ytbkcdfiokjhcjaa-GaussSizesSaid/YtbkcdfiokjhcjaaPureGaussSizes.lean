import Derived.Test.YtbkcdfiokjhcjaaL5
namespace Go.Proofs.Ytbkcdfiokjhcjaa.Pure
open Go.RowKit Go.Proofs.Ytbkcdfiokjhcjaa.P Go.Proofs.YtbkcdfiokjhcjaaW.PrintWords Go.Proofs.YtbkcdfiokjhcjaaW.PrintLast
/-- The walk needs nothing else. -/
theorem GaussSizes : tallymanlaw03_GaussSizes.Pure := trivial
end Go.Proofs.Ytbkcdfiokjhcjaa.Pure
