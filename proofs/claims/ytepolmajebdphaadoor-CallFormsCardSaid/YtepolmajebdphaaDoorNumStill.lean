/- stolelaw0.Num draws nothing: the world stays. -/
import Derived.Test.YtepolmajebdphaaDoorC3
namespace Go.Proofs.YtepolmajebdphaaDoor.Q
open Go.RowKit Go.Proofs.YtepolmajebdphaaDoorW.PrintWords Go.Proofs.YtepolmajebdphaaDoorW.PrintLast Go.Proofs.YtepolmajebdphaaDoorW.PrintMore
theorem num_still (a0 r : Int) (w : World) (h : stolelaw0_Num.f a0 = some r) : Calls Tryd.prog 25 #[.int .i64 a0] w fun e w' => e = .returned (.int .i64 r) ∧ w = w' := by
  cases h
  go_enter Tryd.func25, Tryd.ntmps25
  go_wp2
  go_ret
  exact ⟨rfl, rfl⟩
end Go.Proofs.YtepolmajebdphaaDoor.Q
