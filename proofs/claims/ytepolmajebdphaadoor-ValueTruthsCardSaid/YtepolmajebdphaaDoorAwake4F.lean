/- stolelaw4.awake in the form of the kit's print. -/
import Derived.Test.YtepolmajebdphaaDoorAwake4
namespace Go.Proofs.YtepolmajebdphaaDoor.Values
open Go.RowKit Go.Proofs.YtepolmajebdphaaDoor.Q Go.Proofs.YtepolmajebdphaaDoor.Real
def stolelaw4_awake.f : Option Bool := some true
theorem stolelaw4_awake.calls (r : Bool) (w : World) (hT : Tabs w) (h : stolelaw4_awake.f = some r) :
    Calls Tryd.prog 35 #[] w fun e w' => e = .returned (.bool r) ∧ Below w.heap.size w w' := by
  cases h
  exact awake_calls w hT
end Go.Proofs.YtepolmajebdphaaDoor.Values
