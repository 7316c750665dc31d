/-
  DERIVED. GIVEN WITH THE SEED: THE CARDS: each row of YtoocfodefbechaaGreatDoorRows.lean that lists a variable, with what it lists TIED to the program's text (the seventh form; the later family's looks); each row that meets fmt, with fmt's text TOLD by the authors' own Lean function (tested against real Go, not proved from fmt's source: count such statements apart). THE CARD IS WHAT COUNTS. Prove the row's statement (the work); the ties are given (YtoocfodefbechaaGreatDoorTie.lean); close each card by the builder's one call (the guide's Derived/Test/ToyasCard.lean, 'card_holds'). Laid BY PROGRAM, IN A SANDBOX (cutbox-door.mjs). By AI agents, Wed Nov 11 2026. No macro, syntax, notation, axiom, sorry.
-/
import Derived.Test.YtoocfodefbechaaGreatDoorRows
import GoSem.ClaimSeven
namespace Go.Proofs.YtoocfodefbechaaGreatDoor
namespace Rows

/-- THE TIED CARD OF 'stolelaw18.Calls'. -/
def callsCard : Claim7 := { stood := { row := callsRow, standIns := [], harness := (true, "8ef52dabb09a00eb37bd00811590f33879bf36d875ca86c66bffe356866bf3f3"), looks := false }, kinds := [], alts := [], laidByText := true, laidKinds := [.data, .data, .data], laidTests := true, laidLooks := .later }
def CallsCardSaid : Prop := Claim7.holds Tryz.pinned (.plain (OpenSpec.ofChange callsSpec)) callsCard

/-- THE SECOND FORM's CARD OF 'stolelaw18.Calls'. -/
def callsUptoCard : Claim7 := { stood := { row := callsUptoRow, standIns := [], harness := (true, "8ef52dabb09a00eb37bd00811590f33879bf36d875ca86c66bffe356866bf3f3"), looks := false }, kinds := [], alts := [], laidByText := true, laidKinds := [.data, .data, .data], laidTests := true, laidLooks := .later }
def CallsUptoCardSaid : Prop := Claim7.holds Tryz.pinned (.plain (OpenSpec.upto callsSpec)) callsUptoCard
end Rows
end Go.Proofs.YtoocfodefbechaaGreatDoor
