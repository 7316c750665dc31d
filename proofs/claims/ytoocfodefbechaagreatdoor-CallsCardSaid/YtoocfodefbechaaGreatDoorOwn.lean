/- Small words of this session's own, beside the kit's print. -/
import GoSem.Core.Lib
namespace Go.Proofs.YtoocfodefbechaaGreatDoor.Own
theorem lit_size (a : Array UInt8) : (⟨a⟩ : ByteArray).size = a.size := rfl
end Go.Proofs.YtoocfodefbechaaGreatDoor.Own
