import Derived.Test.YtjdnlibgfjlakaaS15
namespace Go.Proofs.Ytjdnlibgfjlakaa.Pure
open Go.RowKit Go.Proofs.Ytjdnlibgfjlakaa.P Go.Proofs.YtjdnlibgfjlakaaW.PrintWords Go.Proofs.YtjdnlibgfjlakaaW.PrintLast
/-- The walk needs nothing else. -/
theorem CrcLaws : tallymanlaw09_CrcLaws.Pure := trivial
end Go.Proofs.Ytjdnlibgfjlakaa.Pure
