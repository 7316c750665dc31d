/-
  DERIVED. GIVEN WITH THE SEED: THE CARDS: each row of YtdghnfmhcnlppaaDoorRows.lean that lists a variable, with what it lists TIED to the program's text (the seventh form; the later family's looks); each row that meets fmt, with fmt's text TOLD by the authors' own Lean function (tested against real Go, not proved from fmt's source: count such statements apart). THE CARD IS WHAT COUNTS. Prove the row's statement (the work); the ties are given (YtdghnfmhcnlppaaDoorTie.lean); close each card by the builder's one call (the guide's Derived/Test/ToyasCard.lean, 'card_holds'). Laid BY PROGRAM, IN A SANDBOX (cutbox-door.mjs). By AI agents, Wed Nov 11 2026. No macro, syntax, notation, axiom, sorry.
-/
import Derived.Test.YtdghnfmhcnlppaaDoorRows
import GoSem.ClaimSeven
namespace Go.Proofs.YtdghnfmhcnlppaaDoor
namespace Rows

/-- THE TIED CARD OF 'stolelaw19.EvalForms'. -/
def evalFormsCard : Claim7 := { stood := { row := evalFormsRow, standIns := [], harness := (true, "71d89a4651b83dd76eca7f1cda5fa0a813e2169b013dbbc843d7a5eb8b075f79"), looks := true }, kinds := [], alts := [], laidByText := true, laidKinds := [.data, .data, .data], laidTests := true, laidLooks := .later }
def EvalFormsCardSaid : Prop := Claim7.holds Tryd.pinned (.plain (OpenSpec.ofChange evalFormsSpec)) evalFormsCard

/-- THE TIED CARD OF 'stolelaw19.EvalConsts'. -/
def evalConstsCard : Claim7 := { stood := { row := evalConstsRow, standIns := [], harness := (true, "71d89a4651b83dd76eca7f1cda5fa0a813e2169b013dbbc843d7a5eb8b075f79"), looks := true }, kinds := [], alts := [], laidByText := true, laidKinds := [.data, .data, .data], laidTests := true, laidLooks := .later }
def EvalConstsCardSaid : Prop := Claim7.holds Tryd.pinned (.plain (OpenSpec.ofChange evalConstsSpec)) evalConstsCard

/-- THE SECOND FORM's CARD OF 'stolelaw19.EvalForms'. -/
def evalFormsUptoCard : Claim7 := { stood := { row := evalFormsUptoRow, standIns := [], harness := (true, "71d89a4651b83dd76eca7f1cda5fa0a813e2169b013dbbc843d7a5eb8b075f79"), looks := true }, kinds := [], alts := [], laidByText := true, laidKinds := [.data, .data, .data], laidTests := true, laidLooks := .later }
def EvalFormsUptoCardSaid : Prop := Claim7.holds Tryd.pinned (.plain (OpenSpec.upto evalFormsSpec)) evalFormsUptoCard

/-- THE SECOND FORM's CARD OF 'stolelaw19.EvalConsts'. -/
def evalConstsUptoCard : Claim7 := { stood := { row := evalConstsUptoRow, standIns := [], harness := (true, "71d89a4651b83dd76eca7f1cda5fa0a813e2169b013dbbc843d7a5eb8b075f79"), looks := true }, kinds := [], alts := [], laidByText := true, laidKinds := [.data, .data, .data], laidTests := true, laidLooks := .later }
def EvalConstsUptoCardSaid : Prop := Claim7.holds Tryd.pinned (.plain (OpenSpec.upto evalConstsSpec)) evalConstsUptoCard
end Rows
end Go.Proofs.YtdghnfmhcnlppaaDoor
