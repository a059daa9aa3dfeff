import Derived.Test.YtaidjgnkefpclaaS6
namespace Go.Proofs.Ytaidjgnkefpclaa.Pure
open Go.RowKit Go.Proofs.Ytaidjgnkefpclaa.P Go.Proofs.YtaidjgnkefpclaaW.PrintWords Go.Proofs.YtaidjgnkefpclaaW.PrintLast
/-- The walk needs nothing else. -/
theorem NumWords : tallymanlaw01_NumWords.Pure := trivial
end Go.Proofs.Ytaidjgnkefpclaa.Pure
