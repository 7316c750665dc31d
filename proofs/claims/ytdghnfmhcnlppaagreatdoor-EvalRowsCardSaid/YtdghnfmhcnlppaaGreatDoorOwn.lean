/- Small words of this session's own, beside the kit's print. -/
import GoSem.Core.Lib
namespace Go.Proofs.YtdghnfmhcnlppaaGreatDoor.Own
end Go.Proofs.YtdghnfmhcnlppaaGreatDoor.Own
