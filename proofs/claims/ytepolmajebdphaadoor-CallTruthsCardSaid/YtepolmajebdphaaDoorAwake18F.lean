/- stolelaw18.awake in the form of the kit's print. -/
import Derived.Test.YtepolmajebdphaaDoorAwake18
namespace Go.Proofs.YtepolmajebdphaaDoor.Fns
open Go.Proofs.YtepolmajebdphaaDoor.Values Go.RowKit Go.Proofs.YtepolmajebdphaaDoor.Q Go.Proofs.YtepolmajebdphaaDoor.Real
def stolelaw18_awake.f : Option Bool := some true
theorem stolelaw18_awake.calls (r : Bool) (w : World) (hT : Tabs w) (h : stolelaw18_awake.f = some r) :
    Calls Tryd.prog 41 #[] w fun e w' => e = .returned (.bool r) ∧ Below w.heap.size w w' := by
  cases h
  exact awake18_calls w hT
end Go.Proofs.YtepolmajebdphaaDoor.Fns
