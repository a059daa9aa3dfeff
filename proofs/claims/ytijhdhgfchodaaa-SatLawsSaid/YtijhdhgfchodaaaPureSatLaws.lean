import Derived.Test.YtijhdhgfchodaaaS3
namespace Go.Proofs.Ytijhdhgfchodaaa.Pure
open Go.RowKit Go.Proofs.Ytijhdhgfchodaaa.P Go.Proofs.YtijhdhgfchodaaaW.PrintWords Go.Proofs.YtijhdhgfchodaaaW.PrintLast
/-- The walk needs nothing else. -/
theorem SatLaws : tallymanlaw02_SatLaws.Pure := trivial
end Go.Proofs.Ytijhdhgfchodaaa.Pure
