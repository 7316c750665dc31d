/- Every error, limit and kind of the program is the document's number: the closed sentence StoleNames is true. No condition. -/
import Derived.Test.YtpknepalceffgaaPStoleNamesx2
namespace Go.Proofs.Ytpknepalceffgaa.Pure
open Go.RowKit Go.Proofs.Ytpknepalceffgaa.PStoleNames Go.Proofs.YtpknepalceffgaaW.PrintWords Go.Proofs.YtpknepalceffgaaW.PrintLast

theorem StoleNames : stolelaw0_StoleNames.Pure := by
  unfold stolelaw0_StoleNames.Pure
  first | rfl | decide | (decide +kernel)

end Go.Proofs.Ytpknepalceffgaa.Pure
