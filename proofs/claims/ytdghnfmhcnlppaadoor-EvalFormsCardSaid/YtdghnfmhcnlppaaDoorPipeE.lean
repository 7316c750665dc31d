/- Package pipe, walked: words parted at the first bar. -/
import Derived.Test.YtdghnfmhcnlppaaDoorPipeD
namespace Go.Proofs.YtdghnfmhcnlppaaDoor.Pipe
open Go.RowKit Go.Proofs.YtdghnfmhcnlppaaDoor.Q Go.Proofs.YtdghnfmhcnlppaaDoorW.PrintWords Go.Proofs.YtdghnfmhcnlppaaDoorW.PrintLast Go.Proofs.YtdghnfmhcnlppaaDoorW.PrintMore
set_option linter.unusedSimpArgs false
set_option linter.unusedVariables false

end Go.Proofs.YtdghnfmhcnlppaaDoor.Pipe
