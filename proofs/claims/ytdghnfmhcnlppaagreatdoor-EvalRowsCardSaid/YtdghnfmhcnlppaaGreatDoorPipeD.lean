/- Package pipe, walked: words as a command. -/
import Derived.Test.YtdghnfmhcnlppaaGreatDoorPipeC
namespace Go.Proofs.YtdghnfmhcnlppaaGreatDoor.Pipe
open Go.RowKit Go.Proofs.YtdghnfmhcnlppaaGreatDoor.Q Go.Proofs.YtdghnfmhcnlppaaGreatDoorW.PrintWords Go.Proofs.YtdghnfmhcnlppaaGreatDoorW.PrintLast Go.Proofs.YtdghnfmhcnlppaaGreatDoorW.PrintMore
set_option linter.unusedSimpArgs false
set_option linter.unusedVariables false

abbrev zerosC : Obj := .cells #[.string ⟨#[]⟩, .slice none 0 0] 50
theorem R_lt {α : Type} {d : Kd α} {e : Nat} {w : World} {base : Nat} {ok : Nat → Prop} {v : Value} {xs : List α} (h : d.R e w base ok v xs) (k : Nat) (hk : v.ownBlock = some k) : base ≤ k ∧ k < w.heap.size := by
  obtain ⟨inn, ho⟩ := Kd.R_own h
  exact ⟨own_base ho k hk, own_lt ho k hk⟩
theorem addr_zero (a : Addr) : a.add 0 = a := by unfold Addr.add; simp
end Go.Proofs.YtdghnfmhcnlppaaGreatDoor.Pipe
