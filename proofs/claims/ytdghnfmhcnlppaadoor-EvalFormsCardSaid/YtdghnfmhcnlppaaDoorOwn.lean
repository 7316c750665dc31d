/- Small words of this session's own, beside the kit's print. -/
import GoSem.Core.Lib
namespace Go.Proofs.YtdghnfmhcnlppaaDoor.Own
end Go.Proofs.YtdghnfmhcnlppaaDoor.Own
