/- Package pipe, walked: words as a command. -/
import Derived.Test.YtdghnfmhcnlppaaDoorPipeC
namespace Go.Proofs.YtdghnfmhcnlppaaDoor.Pipe
open Go.RowKit Go.Proofs.YtdghnfmhcnlppaaDoor.Q Go.Proofs.YtdghnfmhcnlppaaDoorW.PrintWords Go.Proofs.YtdghnfmhcnlppaaDoorW.PrintLast Go.Proofs.YtdghnfmhcnlppaaDoorW.PrintMore
set_option linter.unusedSimpArgs false
set_option linter.unusedVariables false

theorem R_lt {α : Type} {d : Kd α} {e : Nat} {w : World} {base : Nat} {ok : Nat → Prop} {v : Value} {xs : List α} (h : d.R e w base ok v xs) (k : Nat) (hk : v.ownBlock = some k) : base ≤ k ∧ k < w.heap.size := by
  obtain ⟨inn, ho⟩ := Kd.R_own h
  exact ⟨own_base ho k hk, own_lt ho k hk⟩
theorem addr_zero (a : Addr) : a.add 0 = a := by unfold Addr.add; simp
end Go.Proofs.YtdghnfmhcnlppaaDoor.Pipe
