/- What the reference's functions Split and Real answer (the first part of XRefReals). -/
import Derived.Test.YtdghnfmhcnlppaaGreatDoorRealLemmas
namespace Go.Proofs.YtdghnfmhcnlppaaGreatDoor.RefReals
open Go.RowKit Go.Proofs.YtdghnfmhcnlppaaGreatDoor.Q Go.Proofs.YtdghnfmhcnlppaaGreatDoor.Real Go.Proofs.YtdghnfmhcnlppaaGreatDoor.RealPure Go.Proofs.YtdghnfmhcnlppaaGreatDoor.PureReals Go.Proofs.YtdghnfmhcnlppaaGreatDoorW.PrintWords Go.Proofs.YtdghnfmhcnlppaaGreatDoorW.PrintLast Go.Proofs.YtdghnfmhcnlppaaGreatDoorW.PrintMore

/-! ### Split -/
/-! ### Real -/
end Go.Proofs.YtdghnfmhcnlppaaGreatDoor.RefReals
