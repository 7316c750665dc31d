/- Package pipe: the contracts of Parse and May, in the form that a walk asks for. -/
import Derived.Test.YthaapadjlknieaaPipeH
namespace Go.Proofs.Ythaapadjlknieaa.Pipe
open Go.RowKit Go.Proofs.Ythaapadjlknieaa.Q Go.Proofs.YthaapadjlknieaaW.PrintWords Go.Proofs.YthaapadjlknieaaW.PrintLast Go.Proofs.YthaapadjlknieaaW.PrintMore
set_option linter.unusedSimpArgs false
set_option linter.unusedVariables false

def pipe_Parse.f (l : List Wd) : Option (List Cm × Int) := if l.length ≤ 1048576 then some (parseR l) else none
theorem pipe_Parse.calls (A : Option Addr) (c : Nat) (l : List Wd) (r1 : List Cm) (r2 : Int) (w : World) (hA : Kd.C kW w A l.length l) (hc : l.length ≤ c) (h : pipe_Parse.f l = some (r1, r2)) :
    Calls Try.prog 7 #[.slice A l.length c] w fun e w' => ∃ v, e = .returned (.tuple #[v, .int .i64 r2]) ∧ kC.R 38 w' w.heap.size (fun _ => True) v r1 ∧ Below w.heap.size w w' := by
  unfold pipe_Parse.f at h
  split at h
  · rename_i hl
    have e := Option.some.inj h
    have h2 := Parse_calls A c l w hA hc hl
    rw [e] at h2
    exact h2
  · cases h
def pipe_May.f (l : List Cm) : Option Bool := some (mayP l)
theorem pipe_May.calls (A : Option Addr) (c : Nat) (l : List Cm) (r : Bool) (w : World) (hA : Kd.C kC w A l.length l) (hc : l.length ≤ c) (h : pipe_May.f l = some r) :
    Calls Try.prog 13 #[.slice A l.length c] w fun e w' => e = .returned (.bool r) ∧ Below w.heap.size w w' := by
  have e := Option.some.inj h
  subst e
  exact May_calls A c l w hA hc
end Go.Proofs.Ythaapadjlknieaa.Pipe
