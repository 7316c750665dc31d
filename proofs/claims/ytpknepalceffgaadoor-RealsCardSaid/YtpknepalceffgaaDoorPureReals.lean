/- Any bits: the program's answers on reals are the document's: the law Reals, over numbers alone. -/
import Derived.Test.YtpknepalceffgaaDoorRefReals
namespace Go.Proofs.YtpknepalceffgaaDoor.Pure
open Go.RowKit Go.Proofs.YtpknepalceffgaaDoor.Q Go.Proofs.YtpknepalceffgaaDoor.Real Go.Proofs.YtpknepalceffgaaDoor.RealPure Go.Proofs.YtpknepalceffgaaDoor.PureReals Go.Proofs.YtpknepalceffgaaDoor.RefReals Go.Proofs.YtpknepalceffgaaDoorW.PrintWords Go.Proofs.YtpknepalceffgaaDoorW.PrintLast Go.Proofs.YtpknepalceffgaaDoorW.PrintMore

theorem Reals : stolelaw3_Reals.Pure := by
  intro a0 hw
  obtain ⟨b, rfl, hb⟩ := wf_u64 hw
  refine ⟨80, ?_⟩
  unfold stolelaw3_Reals.f
  rw [whole_f b hb, refwhole_f b hb 80 (by omega), kind_f b hb, real_f b hb 80 (by omega), text_f b hb, reftext_f b hb 80 (by omega), awake]
  simp
end Go.Proofs.YtpknepalceffgaaDoor.Pure
