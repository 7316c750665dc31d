/-
  DERIVED. GIVEN WITH THE SEED: THE CARDS: each row of YtpknepalceffgaaDoorRows.lean that lists a variable, with what it lists TIED to the program's text (the seventh form; the later family's looks); each row that meets fmt, with fmt's text TOLD by the authors' own Lean function (tested against real Go, not proved from fmt's source: count such statements apart). THE CARD IS WHAT COUNTS. Prove the row's statement (the work); the ties are given (YtpknepalceffgaaDoorTie.lean); close each card by the builder's one call (the guide's Derived/Test/ToyasCard.lean, 'card_holds'). Laid BY PROGRAM, IN A SANDBOX (cutbox-door.mjs). By AI agents, Wed Nov 11 2026. No macro, syntax, notation, axiom, sorry.
-/
import Derived.Test.YtpknepalceffgaaDoorRows
import GoSem.ClaimSeven
namespace Go.Proofs.YtpknepalceffgaaDoor
namespace Rows

/-- THE TIED CARD OF 'stolelaw3.Reals'. -/
def realsCard : Claim7 := { stood := { row := realsRow, standIns := [], harness := (true, "8a02e19d7d6b25b5f8cb8a340bf247fbe5f438dbab0a7dbca1041f6271081bef"), looks := false }, kinds := [], alts := [], laidByText := true, laidKinds := [.data, .data, .data], laidTests := true, laidLooks := .later }
def RealsCardSaid : Prop := Claim7.holds Tryd.pinned (.plain (OpenSpec.ofChange realsSpec)) realsCard

/-- THE TIED CARD OF 'stolelaw3.RealWholes'. -/
def realWholesCard : Claim7 := { stood := { row := realWholesRow, standIns := [], harness := (true, "8a02e19d7d6b25b5f8cb8a340bf247fbe5f438dbab0a7dbca1041f6271081bef"), looks := false }, kinds := [], alts := [], laidByText := true, laidKinds := [.data, .data, .data], laidTests := true, laidLooks := .later }
def RealWholesCardSaid : Prop := Claim7.holds Tryd.pinned (.plain (OpenSpec.ofChange realWholesSpec)) realWholesCard

/-- THE TIED CARD OF 'stolelaw3.RealOthers'. -/
def realOthersCard : Claim7 := { stood := { row := realOthersRow, standIns := [], harness := (true, "8a02e19d7d6b25b5f8cb8a340bf247fbe5f438dbab0a7dbca1041f6271081bef"), looks := false }, kinds := [], alts := [], laidByText := true, laidKinds := [.data, .data, .data], laidTests := true, laidLooks := .later }
def RealOthersCardSaid : Prop := Claim7.holds Tryd.pinned (.plain (OpenSpec.ofChange realOthersSpec)) realOthersCard

/-- THE TIED CARD OF 'stolelaw3.RealSigns'. -/
def realSignsCard : Claim7 := { stood := { row := realSignsRow, standIns := [], harness := (true, "8a02e19d7d6b25b5f8cb8a340bf247fbe5f438dbab0a7dbca1041f6271081bef"), looks := false }, kinds := [], alts := [], laidByText := true, laidKinds := [.data, .data, .data], laidTests := true, laidLooks := .later }
def RealSignsCardSaid : Prop := Claim7.holds Tryd.pinned (.plain (OpenSpec.ofChange realSignsSpec)) realSignsCard

/-- THE TIED CARD OF 'stolelaw3.RealKinds'. -/
def realKindsCard : Claim7 := { stood := { row := realKindsRow, standIns := [], harness := (true, "8a02e19d7d6b25b5f8cb8a340bf247fbe5f438dbab0a7dbca1041f6271081bef"), looks := false }, kinds := [], alts := [], laidByText := true, laidKinds := [.data, .data, .data], laidTests := true, laidLooks := .later }
def RealKindsCardSaid : Prop := Claim7.holds Tryd.pinned (.plain (OpenSpec.ofChange realKindsSpec)) realKindsCard

/-- THE SECOND FORM's CARD OF 'stolelaw3.Reals'. -/
def realsUptoCard : Claim7 := { stood := { row := realsUptoRow, standIns := [], harness := (true, "8a02e19d7d6b25b5f8cb8a340bf247fbe5f438dbab0a7dbca1041f6271081bef"), looks := false }, kinds := [], alts := [], laidByText := true, laidKinds := [.data, .data, .data], laidTests := true, laidLooks := .later }
def RealsUptoCardSaid : Prop := Claim7.holds Tryd.pinned (.plain (OpenSpec.upto realsSpec)) realsUptoCard

/-- THE SECOND FORM's CARD OF 'stolelaw3.RealWholes'. -/
def realWholesUptoCard : Claim7 := { stood := { row := realWholesUptoRow, standIns := [], harness := (true, "8a02e19d7d6b25b5f8cb8a340bf247fbe5f438dbab0a7dbca1041f6271081bef"), looks := false }, kinds := [], alts := [], laidByText := true, laidKinds := [.data, .data, .data], laidTests := true, laidLooks := .later }
def RealWholesUptoCardSaid : Prop := Claim7.holds Tryd.pinned (.plain (OpenSpec.upto realWholesSpec)) realWholesUptoCard

/-- THE SECOND FORM's CARD OF 'stolelaw3.RealOthers'. -/
def realOthersUptoCard : Claim7 := { stood := { row := realOthersUptoRow, standIns := [], harness := (true, "8a02e19d7d6b25b5f8cb8a340bf247fbe5f438dbab0a7dbca1041f6271081bef"), looks := false }, kinds := [], alts := [], laidByText := true, laidKinds := [.data, .data, .data], laidTests := true, laidLooks := .later }
def RealOthersUptoCardSaid : Prop := Claim7.holds Tryd.pinned (.plain (OpenSpec.upto realOthersSpec)) realOthersUptoCard

/-- THE SECOND FORM's CARD OF 'stolelaw3.RealSigns'. -/
def realSignsUptoCard : Claim7 := { stood := { row := realSignsUptoRow, standIns := [], harness := (true, "8a02e19d7d6b25b5f8cb8a340bf247fbe5f438dbab0a7dbca1041f6271081bef"), looks := false }, kinds := [], alts := [], laidByText := true, laidKinds := [.data, .data, .data], laidTests := true, laidLooks := .later }
def RealSignsUptoCardSaid : Prop := Claim7.holds Tryd.pinned (.plain (OpenSpec.upto realSignsSpec)) realSignsUptoCard

/-- THE SECOND FORM's CARD OF 'stolelaw3.RealKinds'. -/
def realKindsUptoCard : Claim7 := { stood := { row := realKindsUptoRow, standIns := [], harness := (true, "8a02e19d7d6b25b5f8cb8a340bf247fbe5f438dbab0a7dbca1041f6271081bef"), looks := false }, kinds := [], alts := [], laidByText := true, laidKinds := [.data, .data, .data], laidTests := true, laidLooks := .later }
def RealKindsUptoCardSaid : Prop := Claim7.holds Tryd.pinned (.plain (OpenSpec.upto realKindsSpec)) realKindsUptoCard
end Rows
end Go.Proofs.YtpknepalceffgaaDoor
