/- What the listed tables give: the library's two tables that the walks read; and that the door's own heap meets the condition. -/
import Derived.Test.YtdghnfmhcnlppaaGreatDoorRows
import Derived.Test.YtdghnfmhcnlppaaGreatDoorRealText
import Derived.LaidLaws
import Derived.LaidHandle
import Derived.LaidMore
import Derived.LaidSub
import Derived.MakeChecks
import Derived.Lib.LaidTab
import Derived.Stop.LaidErr
namespace Go.Proofs.YtdghnfmhcnlppaaGreatDoor.Laid
open Go Go.Proofs.YtdghnfmhcnlppaaGreatDoor.Real
set_option maxRecDepth 100000

def steps : Nat := 24
theorem door_met (os : Os) (args : Array Value) : laidMetH Tryz.prog Rows.evalRowsRow.laid ((World.doorLaid Tryz.prog steps os).forCall (fun _ _ => 0) ⟨#[], args, []⟩).memory :=
  laidMetH_of_parts3 (fuel := 8) (laidMet_of_run' 8 (by kernel_rfl) (by kernel_rfl)) (by kernel_rfl) (by kernel_rfl)

theorem tabs_of_laid {W : World} (h : laidMetH Tryz.prog Rows.evalRowsRow.laid W) : Tabs W := by
  rw [MakeChecks.laidMetH_plain _ _ _ (by kernel_rfl)] at h
  have h1 : laidMet Tryz.prog [("math/bits.deBruijn32tab", Rows.laid_math_bits_deBruijn32tab), ("math/bits.deBruijn64tab", Rows.laid_math_bits_deBruijn64tab), ("internal/strconv.uint64pow10", Rows.laid_internal_strconv_uint64pow10)] W := h
  have h2 := laidMet.tail h1
  have h3 := laidMet.tail h2
  exact ⟨Lib.tabIs_of_head gPow (by kernel_rfl) Tryz.underlying159 Tryz.underlying23 (by kernel_rfl) (by kernel_rfl) h3,
    Lib.tabIs_of_head gBru (by kernel_rfl) Tryz.underlying156 Tryz.underlying5 (by kernel_rfl) (by kernel_rfl) h2⟩
end Go.Proofs.YtdghnfmhcnlppaaGreatDoor.Laid
