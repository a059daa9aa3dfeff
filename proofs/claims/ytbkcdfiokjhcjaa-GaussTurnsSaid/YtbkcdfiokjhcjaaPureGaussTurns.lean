import Derived.Test.YtbkcdfiokjhcjaaL6b
namespace Go.Proofs.Ytbkcdfiokjhcjaa.Pure
open Go.RowKit Go.Proofs.Ytbkcdfiokjhcjaa.P Go.Proofs.YtbkcdfiokjhcjaaW.PrintWords Go.Proofs.YtbkcdfiokjhcjaaW.PrintLast
/-- The walk needs nothing else. -/
theorem GaussTurns : tallymanlaw03_GaussTurns.Pure := trivial
end Go.Proofs.Ytbkcdfiokjhcjaa.Pure
