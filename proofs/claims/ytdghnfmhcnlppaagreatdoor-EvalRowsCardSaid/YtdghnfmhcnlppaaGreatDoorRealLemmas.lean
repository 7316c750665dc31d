/- Plain lemmas on the printed functions of the real laws: shifts, masks, the constants' sentence. -/
import Derived.Test.YtdghnfmhcnlppaaGreatDoorRR
import Derived.Test.YtdghnfmhcnlppaaGreatDoorRealText
import Derived.Lib.Strings
import Derived.Lib.ItoaLen
namespace Go.Proofs.YtdghnfmhcnlppaaGreatDoor.PureReals
open Go.RowKit Go.Proofs.YtdghnfmhcnlppaaGreatDoor.Q Go.Proofs.YtdghnfmhcnlppaaGreatDoor.Real Go.Proofs.YtdghnfmhcnlppaaGreatDoor.RealPure Go.Proofs.YtdghnfmhcnlppaaGreatDoorW.PrintWords Go.Proofs.YtdghnfmhcnlppaaGreatDoorW.PrintLast Go.Proofs.YtdghnfmhcnlppaaGreatDoorW.PrintMore


theorem wf_u64 {a : Int} (h : (Lit.int .u64 a).wf = true) : ∃ b : Nat, a = b ∧ b < 2 ^ 64 := by
  have h' : 0 ≤ a ∧ a ≤ 18446744073709551615 := by simpa [Lit.wf, IntKind.min, IntKind.max, IntKind.signed, IntKind.bits] using h
  exact ⟨a.toNat, by omega, by omega⟩
theorem wf_i64 {a : Int} (h : (Lit.int .i64 a).wf = true) : -9223372036854775808 ≤ a ∧ a ≤ 9223372036854775807 := by
  simpa [Lit.wf, IntKind.min, IntKind.max, IntKind.signed, IntKind.bits] using h

end Go.Proofs.YtdghnfmhcnlppaaGreatDoor.PureReals
