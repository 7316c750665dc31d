/- Plain lemmas on the printed functions of the real laws: shifts, masks, the constants' sentence. -/
import Derived.Test.YtdghnfmhcnlppaaGreatDoorRR
import Derived.Test.YtdghnfmhcnlppaaGreatDoorRealText
import Derived.Lib.Strings
import Derived.Lib.ItoaLen
namespace Go.Proofs.YtdghnfmhcnlppaaGreatDoor.PureReals
open Go.RowKit Go.Proofs.YtdghnfmhcnlppaaGreatDoor.Q Go.Proofs.YtdghnfmhcnlppaaGreatDoor.Real Go.Proofs.YtdghnfmhcnlppaaGreatDoor.RealPure Go.Proofs.YtdghnfmhcnlppaaGreatDoorW.PrintWords Go.Proofs.YtdghnfmhcnlppaaGreatDoorW.PrintLast Go.Proofs.YtdghnfmhcnlppaaGreatDoorW.PrintMore


end Go.Proofs.YtdghnfmhcnlppaaGreatDoor.PureReals
