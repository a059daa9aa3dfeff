import Derived.Test.YtaidjgnkefpclaaS5
namespace Go.Proofs.Ytaidjgnkefpclaa.Pure
open Go.RowKit Go.Proofs.Ytaidjgnkefpclaa.P Go.Proofs.YtaidjgnkefpclaaW.PrintWords Go.Proofs.YtaidjgnkefpclaaW.PrintLast
/-- The walk needs nothing else. -/
theorem NumBack : tallymanlaw01_NumBack.Pure := trivial
end Go.Proofs.Ytaidjgnkefpclaa.Pure
