/- Package pipe, walked: words parted at the first bar. -/
import Derived.Test.YtdghnfmhcnlppaaGreatDoorPipeD
namespace Go.Proofs.YtdghnfmhcnlppaaGreatDoor.Pipe
open Go.RowKit Go.Proofs.YtdghnfmhcnlppaaGreatDoor.Q Go.Proofs.YtdghnfmhcnlppaaGreatDoorW.PrintWords Go.Proofs.YtdghnfmhcnlppaaGreatDoorW.PrintLast Go.Proofs.YtdghnfmhcnlppaaGreatDoorW.PrintMore
set_option linter.unusedSimpArgs false
set_option linter.unusedVariables false

end Go.Proofs.YtdghnfmhcnlppaaGreatDoor.Pipe
