import Derived.Test.YtjdnlibgfjlakaaS11
namespace Go.Proofs.Ytjdnlibgfjlakaa.Pure
open Go.RowKit Go.Proofs.Ytjdnlibgfjlakaa.P Go.Proofs.YtjdnlibgfjlakaaW.PrintWords Go.Proofs.YtjdnlibgfjlakaaW.PrintLast
/-- The walk needs nothing else. -/
theorem PackBack : tallymanlaw08_PackBack.Pure := trivial
end Go.Proofs.Ytjdnlibgfjlakaa.Pure
