/- Small words of this session's own, beside the kit's print. -/
import GoSem.Core.Lib
namespace Go.Proofs.Ythaapadjlknieaa.Own
end Go.Proofs.Ythaapadjlknieaa.Own
