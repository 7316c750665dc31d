/-
  DERIVED. GIVEN WITH THE SEED: THE CARDS: each row of YtdghnfmhcnlppaaGreatDoorRows.lean that lists a variable, with what it lists TIED to the program's text (the seventh form; the later family's looks); each row that meets fmt, with fmt's text TOLD by the authors' own Lean function (tested against real Go, not proved from fmt's source: count such statements apart). THE CARD IS WHAT COUNTS. Prove the row's statement (the work); the ties are given (YtdghnfmhcnlppaaGreatDoorTie.lean); close each card by the builder's one call (the guide's Derived/Test/ToyasCard.lean, 'card_holds'). Laid BY PROGRAM, IN A SANDBOX (cutbox-door.mjs). By AI agents, Wed Nov 11 2026. No macro, syntax, notation, axiom, sorry.
-/
import Derived.Test.YtdghnfmhcnlppaaGreatDoorRows
import GoSem.ClaimSeven
namespace Go.Proofs.YtdghnfmhcnlppaaGreatDoor
namespace Rows

/-- THE TIED CARD OF 'stolelaw19.Evals'. -/
def evalsCard : Claim7 := { stood := { row := evalsRow, standIns := [], harness := (true, "247a63f4edd5691b426cc8a4ba1784f40dcecf50a5f1b246eac2264dbd97e57e"), looks := true }, kinds := [], alts := [], laidByText := true, laidKinds := [.data, .data, .data], laidTests := true, laidLooks := .later }
def EvalsCardSaid : Prop := Claim7.holds Tryz.pinned (.plain (OpenSpec.ofChange evalsSpec)) evalsCard

/-- THE TIED CARD OF 'stolelaw19.EvalRows'. -/
def evalRowsCard : Claim7 := { stood := { row := evalRowsRow, standIns := [], harness := (true, "247a63f4edd5691b426cc8a4ba1784f40dcecf50a5f1b246eac2264dbd97e57e"), looks := true }, kinds := [], alts := [], laidByText := true, laidKinds := [.data, .data, .data], laidTests := true, laidLooks := .later }
def EvalRowsCardSaid : Prop := Claim7.holds Tryz.pinned (.plain (OpenSpec.ofChange evalRowsSpec)) evalRowsCard

/-- THE TIED CARD OF 'stolelaw19.EvalPaths'. -/
def evalPathsCard : Claim7 := { stood := { row := evalPathsRow, standIns := [], harness := (true, "247a63f4edd5691b426cc8a4ba1784f40dcecf50a5f1b246eac2264dbd97e57e"), looks := true }, kinds := [], alts := [], laidByText := true, laidKinds := [.data, .data, .data], laidTests := true, laidLooks := .later }
def EvalPathsCardSaid : Prop := Claim7.holds Tryz.pinned (.plain (OpenSpec.ofChange evalPathsSpec)) evalPathsCard

/-- THE SECOND FORM's CARD OF 'stolelaw19.Evals'. -/
def evalsUptoCard : Claim7 := { stood := { row := evalsUptoRow, standIns := [], harness := (true, "247a63f4edd5691b426cc8a4ba1784f40dcecf50a5f1b246eac2264dbd97e57e"), looks := true }, kinds := [], alts := [], laidByText := true, laidKinds := [.data, .data, .data], laidTests := true, laidLooks := .later }
def EvalsUptoCardSaid : Prop := Claim7.holds Tryz.pinned (.plain (OpenSpec.upto evalsSpec)) evalsUptoCard

/-- THE SECOND FORM's CARD OF 'stolelaw19.EvalRows'. -/
def evalRowsUptoCard : Claim7 := { stood := { row := evalRowsUptoRow, standIns := [], harness := (true, "247a63f4edd5691b426cc8a4ba1784f40dcecf50a5f1b246eac2264dbd97e57e"), looks := true }, kinds := [], alts := [], laidByText := true, laidKinds := [.data, .data, .data], laidTests := true, laidLooks := .later }
def EvalRowsUptoCardSaid : Prop := Claim7.holds Tryz.pinned (.plain (OpenSpec.upto evalRowsSpec)) evalRowsUptoCard

/-- THE SECOND FORM's CARD OF 'stolelaw19.EvalPaths'. -/
def evalPathsUptoCard : Claim7 := { stood := { row := evalPathsUptoRow, standIns := [], harness := (true, "247a63f4edd5691b426cc8a4ba1784f40dcecf50a5f1b246eac2264dbd97e57e"), looks := true }, kinds := [], alts := [], laidByText := true, laidKinds := [.data, .data, .data], laidTests := true, laidLooks := .later }
def EvalPathsUptoCardSaid : Prop := Claim7.holds Tryz.pinned (.plain (OpenSpec.upto evalPathsSpec)) evalPathsUptoCard
end Rows
end Go.Proofs.YtdghnfmhcnlppaaGreatDoor
