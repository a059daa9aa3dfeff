import Derived.Test.YtjdnlibgfjlakaaS13
namespace Go.Proofs.Ytjdnlibgfjlakaa.Pure
open Go.RowKit Go.Proofs.Ytjdnlibgfjlakaa.P Go.Proofs.YtjdnlibgfjlakaaW.PrintWords Go.Proofs.YtjdnlibgfjlakaaW.PrintLast
/-- The walk needs nothing else. -/
theorem CrcTells : tallymanlaw09_CrcTells.Pure := trivial
end Go.Proofs.Ytjdnlibgfjlakaa.Pure
