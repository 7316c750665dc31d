/-
  No cell of these rows narrows 'for every input' (looked for: loops, veiled, ifaces, maps, wideKeys, modest, calm, conditions, laid).
  DERIVED. THE GIVEN ROWS OF THIS SEAT. 4 by the template 'for every input the law returns true; each argument reads behind the call as it read before'; 0 by the template 'total and deterministic' (their statements: YthaapadjlknieaaTotals.lean).
  GIVEN WITH THE SEED: the statements are not yours to turn. If you find one false, say at which input.
  Laid BY PROGRAM, IN A SANDBOX (cutbox-rows.mjs): the forced cells as the released guide's own fill.sh prints them over the translation c0ee95c7d24bba13… (all of the seat's roots in one cut). By AI agents, Wed Nov 11 2026. No macro, syntax, notation, axiom, sorry.
-/
import Derived.Test.YthaapadjlknieaaChecked
import GoSem.Claim
import GoSem.ClaimJoined
import GoSem.ClaimMapViews
import Derived.JoinedTies
import Derived.KernelRfl
namespace Go.Proofs.Ythaapadjlknieaa
/- THE CELL 'sum', in the pinned program and in every row, IS THE sha256 OF THE DUMP (.gsa) THAT YthaapadjlknieaaProg.lean LOADS. Nothing in Lean hashes anything: it is a label: what it is worth is what the hold of that sum in a sandbox is worth. -/
noncomputable def Try.pinned : Pinned := { name := "ythaapadjlknieaa", sum := "c0ee95c7d24bba13c2673da5e3761a777470a8f75fa600977ef2cd16e1cf7a10", checked := Try.checked }
namespace Rows
def none {H : Type} : Left H := { results := [], args := [] }

/-- 'stolelaw15.Pipes': WHATEVER THE INPUT: true; the input reads as it did. -/
def pipesSpec : ChangeSpec := { name := "pipes", fn := fun _ => fun
  | [d1, d2] => { results := [.lit (.bool true)], args := [d1, d2] }
  | _ => none }
def pipesRow : OpenClaim := { program := "ythaapadjlknieaa", sum := "c0ee95c7d24bba13c2673da5e3761a777470a8f75fa600977ef2cd16e1cf7a10", func := "stole/stolelaw15.Pipes", spec := "pipes", unfollowed := true, recurses := true, apart := false }
def PipesSaid : Prop := pipesRow.holds Try.pinned (OpenSpec.ofChange pipesSpec)

/-- ITS FALSE NEIGHBOUR: 'it returns false'. Refute it at one input. -/
def pipesWrong : ChangeSpec := { name := "pipes", fn := fun _ => fun
  | [d1, d2] => { results := [.lit (.bool false)], args := [d1, d2] }
  | _ => none }
def PipesWrongFalsely : Prop := pipesRow.holds Try.pinned (OpenSpec.ofChange pipesWrong)

/-- 'stolelaw15.PipeMays': WHATEVER THE INPUT: true; the input reads as it did. -/
def pipeMaysSpec : ChangeSpec := { name := "pipeMays", fn := fun _ => fun
  | [d1, d2] => { results := [.lit (.bool true)], args := [d1, d2] }
  | _ => none }
def pipeMaysRow : OpenClaim := { program := "ythaapadjlknieaa", sum := "c0ee95c7d24bba13c2673da5e3761a777470a8f75fa600977ef2cd16e1cf7a10", func := "stole/stolelaw15.PipeMays", spec := "pipeMays", unfollowed := true, recurses := true, apart := false }
def PipeMaysSaid : Prop := pipeMaysRow.holds Try.pinned (OpenSpec.ofChange pipeMaysSpec)

/-- ITS FALSE NEIGHBOUR: 'it returns false'. Refute it at one input. -/
def pipeMaysWrong : ChangeSpec := { name := "pipeMays", fn := fun _ => fun
  | [d1, d2] => { results := [.lit (.bool false)], args := [d1, d2] }
  | _ => none }
def PipeMaysWrongFalsely : Prop := pipeMaysRow.holds Try.pinned (OpenSpec.ofChange pipeMaysWrong)

/-- 'stolelaw15.PipeRows': WHATEVER THE INPUT: true; the input reads as it did. -/
def pipeRowsSpec : ChangeSpec := { name := "pipeRows", fn := fun _ => fun
  | [d1, d2] => { results := [.lit (.bool true)], args := [d1, d2] }
  | _ => none }
def pipeRowsRow : OpenClaim := { program := "ythaapadjlknieaa", sum := "c0ee95c7d24bba13c2673da5e3761a777470a8f75fa600977ef2cd16e1cf7a10", func := "stole/stolelaw15.PipeRows", spec := "pipeRows", unfollowed := true, recurses := true, apart := false }
def PipeRowsSaid : Prop := pipeRowsRow.holds Try.pinned (OpenSpec.ofChange pipeRowsSpec)

/-- ITS FALSE NEIGHBOUR: 'it returns false'. Refute it at one input. -/
def pipeRowsWrong : ChangeSpec := { name := "pipeRows", fn := fun _ => fun
  | [d1, d2] => { results := [.lit (.bool false)], args := [d1, d2] }
  | _ => none }
def PipeRowsWrongFalsely : Prop := pipeRowsRow.holds Try.pinned (OpenSpec.ofChange pipeRowsWrong)

/-- 'stolelaw15.PipeForms': WHATEVER THE INPUT: true; the input reads as it did. -/
def pipeFormsSpec : ChangeSpec := { name := "pipeForms", fn := fun _ => fun
  | [d1, d2] => { results := [.lit (.bool true)], args := [d1, d2] }
  | _ => none }
def pipeFormsRow : OpenClaim := { program := "ythaapadjlknieaa", sum := "c0ee95c7d24bba13c2673da5e3761a777470a8f75fa600977ef2cd16e1cf7a10", func := "stole/stolelaw15.PipeForms", spec := "pipeForms", unfollowed := true, recurses := true, apart := false }
def PipeFormsSaid : Prop := pipeFormsRow.holds Try.pinned (OpenSpec.ofChange pipeFormsSpec)

/-- ITS FALSE NEIGHBOUR: 'it returns false'. Refute it at one input. -/
def pipeFormsWrong : ChangeSpec := { name := "pipeForms", fn := fun _ => fun
  | [d1, d2] => { results := [.lit (.bool false)], args := [d1, d2] }
  | _ => none }
def PipeFormsWrongFalsely : Prop := pipeFormsRow.holds Try.pinned (OpenSpec.ofChange pipeFormsWrong)

/- THE SECOND FORM. 'bulk': how many values and letters a reading holds, each counted each time it is reached (what is shared counts as often as it is met; a slice's spare places count too). A statement '..UptoSaid' is the law's where the arguments, and the package variables that the reading takes, are together of bulk at most 1048576: NARROWER than '..Said'. Prove '..Said' where nothing that the law and all that it calls make is longer than what came in: it says more and counts as full. Else prove '..UptoSaid'. A law counts once. -/
mutual
def uptoBulk {H : Type} : DataW H → Nat
  | .lit (.string bytes) => bytes.length + 1
  | .lit _ => 1
  | .nil => 1
  | .ptr d => uptoBulk d + 1
  | .slice elems spare => uptoBulkAll elems + uptoBulkAll spare + 1
  | .agg parts => uptoBulkAll parts + 1
  | .iface _ d => uptoBulk d + 1
  | .map entries => uptoBulkEntries entries + 1
  | .held _ => 1
def uptoBulkAll {H : Type} : List (DataW H) → Nat
  | [] => 0
  | d :: r => uptoBulk d + uptoBulkAll r
def uptoBulkEntries {H : Type} : List (Lit × DataW H) → Nat
  | [] => 0
  | x :: r => uptoBulkEntry x + uptoBulkEntries r
def uptoBulkEntry {H : Type} : Lit × DataW H → Nat
  | (.string bytes, d) => bytes.length + uptoBulk d + 1
  | (_, d) => uptoBulk d + 1
 end
def uptoSmall : (H : Type) → List (DataW H) → Bool := fun _ ds => decide (uptoBulkAll ds ≤ 1048576)
def OpenSpec.upto (s : _root_.Go.ChangeSpec) : _root_.Go.OpenSpec := { _root_.Go.OpenSpec.ofChange s with cond := some uptoSmall }

/-- 'stolelaw15.Pipes', WHERE WHAT IT READS IS OF BULK AT MOST 1048576: true; the input reads as it did. -/
def pipesUptoRow : OpenClaim := { program := "ythaapadjlknieaa", sum := "c0ee95c7d24bba13c2673da5e3761a777470a8f75fa600977ef2cd16e1cf7a10", func := "stole/stolelaw15.Pipes", spec := "pipes", unfollowed := true, recurses := true, apart := false, narrowed := true }
def PipesUptoSaid : Prop := pipesUptoRow.holds Try.pinned (OpenSpec.upto pipesSpec)

/-- 'stolelaw15.PipeMays', WHERE WHAT IT READS IS OF BULK AT MOST 1048576: true; the input reads as it did. -/
def pipeMaysUptoRow : OpenClaim := { program := "ythaapadjlknieaa", sum := "c0ee95c7d24bba13c2673da5e3761a777470a8f75fa600977ef2cd16e1cf7a10", func := "stole/stolelaw15.PipeMays", spec := "pipeMays", unfollowed := true, recurses := true, apart := false, narrowed := true }
def PipeMaysUptoSaid : Prop := pipeMaysUptoRow.holds Try.pinned (OpenSpec.upto pipeMaysSpec)

/-- 'stolelaw15.PipeRows', WHERE WHAT IT READS IS OF BULK AT MOST 1048576: true; the input reads as it did. -/
def pipeRowsUptoRow : OpenClaim := { program := "ythaapadjlknieaa", sum := "c0ee95c7d24bba13c2673da5e3761a777470a8f75fa600977ef2cd16e1cf7a10", func := "stole/stolelaw15.PipeRows", spec := "pipeRows", unfollowed := true, recurses := true, apart := false, narrowed := true }
def PipeRowsUptoSaid : Prop := pipeRowsUptoRow.holds Try.pinned (OpenSpec.upto pipeRowsSpec)

/-- 'stolelaw15.PipeForms', WHERE WHAT IT READS IS OF BULK AT MOST 1048576: true; the input reads as it did. -/
def pipeFormsUptoRow : OpenClaim := { program := "ythaapadjlknieaa", sum := "c0ee95c7d24bba13c2673da5e3761a777470a8f75fa600977ef2cd16e1cf7a10", func := "stole/stolelaw15.PipeForms", spec := "pipeForms", unfollowed := true, recurses := true, apart := false, narrowed := true }
def PipeFormsUptoSaid : Prop := pipeFormsUptoRow.holds Try.pinned (OpenSpec.upto pipeFormsSpec)

end Rows
end Go.Proofs.Ythaapadjlknieaa
