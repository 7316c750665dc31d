/-
  DERIVED. GIVEN WITH THE SEED: THE CARDS: each row of YtepolmajebdphaaDoorRows.lean that lists a variable, with what it lists TIED to the program's text (the seventh form; the later family's looks); each row that meets fmt, with fmt's text TOLD by the authors' own Lean function (tested against real Go, not proved from fmt's source: count such statements apart). THE CARD IS WHAT COUNTS. Prove the row's statement (the work); the ties are given (YtepolmajebdphaaDoorTie.lean); close each card by the builder's one call (the guide's Derived/Test/ToyasCard.lean, 'card_holds'). Laid BY PROGRAM, IN A SANDBOX (cutbox-door.mjs). By AI agents, Wed Nov 11 2026. No macro, syntax, notation, axiom, sorry.
-/
import Derived.Test.YtepolmajebdphaaDoorRows
import GoSem.ClaimSeven
namespace Go.Proofs.YtepolmajebdphaaDoor
namespace Rows

/-- THE TIED CARD OF 'stolelaw4.Values'. -/
def valuesCard : Claim7 := { stood := { row := valuesRow, standIns := [], harness := (true, "646ecfe23c655ca2fe88f1f4bc97d618ea8af431ab29eac06dd73a2726b668bb"), looks := true }, kinds := [], alts := [], laidByText := true, laidKinds := [.data, .data, .data], laidTests := true, laidLooks := .later }
def ValuesCardSaid : Prop := Claim7.holds Tryd.pinned (.plain (OpenSpec.ofChange valuesSpec)) valuesCard

/-- THE TIED CARD OF 'stolelaw4.ValueReals'. -/
def valueRealsCard : Claim7 := { stood := { row := valueRealsRow, standIns := [], harness := (true, "646ecfe23c655ca2fe88f1f4bc97d618ea8af431ab29eac06dd73a2726b668bb"), looks := true }, kinds := [], alts := [], laidByText := true, laidKinds := [.data, .data, .data], laidTests := true, laidLooks := .later }
def ValueRealsCardSaid : Prop := Claim7.holds Tryd.pinned (.plain (OpenSpec.ofChange valueRealsSpec)) valueRealsCard

/-- THE TIED CARD OF 'stolelaw4.ValueOrders'. -/
def valueOrdersCard : Claim7 := { stood := { row := valueOrdersRow, standIns := [], harness := (true, "646ecfe23c655ca2fe88f1f4bc97d618ea8af431ab29eac06dd73a2726b668bb"), looks := true }, kinds := [], alts := [], laidByText := true, laidKinds := [.data, .data, .data], laidTests := true, laidLooks := .later }
def ValueOrdersCardSaid : Prop := Claim7.holds Tryd.pinned (.plain (OpenSpec.ofChange valueOrdersSpec)) valueOrdersCard

/-- THE TIED CARD OF 'stolelaw4.ValueForms'. -/
def valueFormsCard : Claim7 := { stood := { row := valueFormsRow, standIns := [], harness := (true, "646ecfe23c655ca2fe88f1f4bc97d618ea8af431ab29eac06dd73a2726b668bb"), looks := true }, kinds := [], alts := [], laidByText := true, laidKinds := [.data, .data, .data], laidTests := true, laidLooks := .later }
def ValueFormsCardSaid : Prop := Claim7.holds Tryd.pinned (.plain (OpenSpec.ofChange valueFormsSpec)) valueFormsCard

/-- THE TIED CARD OF 'stolelaw4.ValueDeep'. -/
def valueDeepCard : Claim7 := { stood := { row := valueDeepRow, standIns := [], harness := (true, "646ecfe23c655ca2fe88f1f4bc97d618ea8af431ab29eac06dd73a2726b668bb"), looks := true }, kinds := [], alts := [], laidByText := true, laidKinds := [.data, .data, .data], laidTests := true, laidLooks := .later }
def ValueDeepCardSaid : Prop := Claim7.holds Tryd.pinned (.plain (OpenSpec.ofChange valueDeepSpec)) valueDeepCard

/-- THE TIED CARD OF 'stolelaw4.ValueTruths'. -/
def valueTruthsCard : Claim7 := { stood := { row := valueTruthsRow, standIns := [], harness := (true, "646ecfe23c655ca2fe88f1f4bc97d618ea8af431ab29eac06dd73a2726b668bb"), looks := true }, kinds := [], alts := [], laidByText := true, laidKinds := [.data, .data, .data], laidTests := true, laidLooks := .later }
def ValueTruthsCardSaid : Prop := Claim7.holds Tryd.pinned (.plain (OpenSpec.ofChange valueTruthsSpec)) valueTruthsCard

/-- THE TIED CARD OF 'stolelaw18.CallTruths'. -/
def callTruthsCard : Claim7 := { stood := { row := callTruthsRow, standIns := [], harness := (true, "646ecfe23c655ca2fe88f1f4bc97d618ea8af431ab29eac06dd73a2726b668bb"), looks := true }, kinds := [], alts := [], laidByText := true, laidKinds := [.data, .data, .data], laidTests := true, laidLooks := .later }
def CallTruthsCardSaid : Prop := Claim7.holds Tryd.pinned (.plain (OpenSpec.ofChange callTruthsSpec)) callTruthsCard

/-- THE TIED CARD OF 'stolelaw18.CallLists'. -/
def callListsCard : Claim7 := { stood := { row := callListsRow, standIns := [], harness := (true, "646ecfe23c655ca2fe88f1f4bc97d618ea8af431ab29eac06dd73a2726b668bb"), looks := true }, kinds := [], alts := [], laidByText := true, laidKinds := [.data, .data, .data], laidTests := true, laidLooks := .later }
def CallListsCardSaid : Prop := Claim7.holds Tryd.pinned (.plain (OpenSpec.ofChange callListsSpec)) callListsCard

/-- THE TIED CARD OF 'stolelaw18.CallForms'. -/
def callFormsCard : Claim7 := { stood := { row := callFormsRow, standIns := [], harness := (true, "646ecfe23c655ca2fe88f1f4bc97d618ea8af431ab29eac06dd73a2726b668bb"), looks := true }, kinds := [], alts := [], laidByText := true, laidKinds := [.data, .data, .data], laidTests := true, laidLooks := .later }
def CallFormsCardSaid : Prop := Claim7.holds Tryd.pinned (.plain (OpenSpec.ofChange callFormsSpec)) callFormsCard

/-- THE TIED CARD OF 'stolelaw18.CallCats'. -/
def callCatsCard : Claim7 := { stood := { row := callCatsRow, standIns := [], harness := (true, "646ecfe23c655ca2fe88f1f4bc97d618ea8af431ab29eac06dd73a2726b668bb"), looks := true }, kinds := [], alts := [], laidByText := true, laidKinds := [.data, .data, .data], laidTests := true, laidLooks := .later }
def CallCatsCardSaid : Prop := Claim7.holds Tryd.pinned (.plain (OpenSpec.ofChange callCatsSpec)) callCatsCard

/-- THE TIED CARD OF 'stolelaw18.CallRecords'. -/
def callRecordsCard : Claim7 := { stood := { row := callRecordsRow, standIns := [], harness := (true, "646ecfe23c655ca2fe88f1f4bc97d618ea8af431ab29eac06dd73a2726b668bb"), looks := true }, kinds := [], alts := [], laidByText := true, laidKinds := [.data, .data, .data], laidTests := true, laidLooks := .later }
def CallRecordsCardSaid : Prop := Claim7.holds Tryd.pinned (.plain (OpenSpec.ofChange callRecordsSpec)) callRecordsCard

/-- THE TIED CARD OF 'stolelaw18.CallOrders'. -/
def callOrdersCard : Claim7 := { stood := { row := callOrdersRow, standIns := [], harness := (true, "646ecfe23c655ca2fe88f1f4bc97d618ea8af431ab29eac06dd73a2726b668bb"), looks := true }, kinds := [], alts := [], laidByText := true, laidKinds := [.data, .data, .data], laidTests := true, laidLooks := .later }
def CallOrdersCardSaid : Prop := Claim7.holds Tryd.pinned (.plain (OpenSpec.ofChange callOrdersSpec)) callOrdersCard

/-- THE TIED CARD OF 'stolelaw19.EvalForms'. -/
def evalFormsCard : Claim7 := { stood := { row := evalFormsRow, standIns := [], harness := (true, "646ecfe23c655ca2fe88f1f4bc97d618ea8af431ab29eac06dd73a2726b668bb"), looks := true }, kinds := [], alts := [], laidByText := true, laidKinds := [.data, .data, .data], laidTests := true, laidLooks := .later }
def EvalFormsCardSaid : Prop := Claim7.holds Tryd.pinned (.plain (OpenSpec.ofChange evalFormsSpec)) evalFormsCard

/-- THE TIED CARD OF 'stolelaw19.EvalConsts'. -/
def evalConstsCard : Claim7 := { stood := { row := evalConstsRow, standIns := [], harness := (true, "646ecfe23c655ca2fe88f1f4bc97d618ea8af431ab29eac06dd73a2726b668bb"), looks := true }, kinds := [], alts := [], laidByText := true, laidKinds := [.data, .data, .data], laidTests := true, laidLooks := .later }
def EvalConstsCardSaid : Prop := Claim7.holds Tryd.pinned (.plain (OpenSpec.ofChange evalConstsSpec)) evalConstsCard

/-- THE SECOND FORM's CARD OF 'stolelaw4.Values'. -/
def valuesUptoCard : Claim7 := { stood := { row := valuesUptoRow, standIns := [], harness := (true, "646ecfe23c655ca2fe88f1f4bc97d618ea8af431ab29eac06dd73a2726b668bb"), looks := true }, kinds := [], alts := [], laidByText := true, laidKinds := [.data, .data, .data], laidTests := true, laidLooks := .later }
def ValuesUptoCardSaid : Prop := Claim7.holds Tryd.pinned (.plain (OpenSpec.upto valuesSpec)) valuesUptoCard

/-- THE SECOND FORM's CARD OF 'stolelaw4.ValueReals'. -/
def valueRealsUptoCard : Claim7 := { stood := { row := valueRealsUptoRow, standIns := [], harness := (true, "646ecfe23c655ca2fe88f1f4bc97d618ea8af431ab29eac06dd73a2726b668bb"), looks := true }, kinds := [], alts := [], laidByText := true, laidKinds := [.data, .data, .data], laidTests := true, laidLooks := .later }
def ValueRealsUptoCardSaid : Prop := Claim7.holds Tryd.pinned (.plain (OpenSpec.upto valueRealsSpec)) valueRealsUptoCard

/-- THE SECOND FORM's CARD OF 'stolelaw4.ValueOrders'. -/
def valueOrdersUptoCard : Claim7 := { stood := { row := valueOrdersUptoRow, standIns := [], harness := (true, "646ecfe23c655ca2fe88f1f4bc97d618ea8af431ab29eac06dd73a2726b668bb"), looks := true }, kinds := [], alts := [], laidByText := true, laidKinds := [.data, .data, .data], laidTests := true, laidLooks := .later }
def ValueOrdersUptoCardSaid : Prop := Claim7.holds Tryd.pinned (.plain (OpenSpec.upto valueOrdersSpec)) valueOrdersUptoCard

/-- THE SECOND FORM's CARD OF 'stolelaw4.ValueForms'. -/
def valueFormsUptoCard : Claim7 := { stood := { row := valueFormsUptoRow, standIns := [], harness := (true, "646ecfe23c655ca2fe88f1f4bc97d618ea8af431ab29eac06dd73a2726b668bb"), looks := true }, kinds := [], alts := [], laidByText := true, laidKinds := [.data, .data, .data], laidTests := true, laidLooks := .later }
def ValueFormsUptoCardSaid : Prop := Claim7.holds Tryd.pinned (.plain (OpenSpec.upto valueFormsSpec)) valueFormsUptoCard

/-- THE SECOND FORM's CARD OF 'stolelaw4.ValueDeep'. -/
def valueDeepUptoCard : Claim7 := { stood := { row := valueDeepUptoRow, standIns := [], harness := (true, "646ecfe23c655ca2fe88f1f4bc97d618ea8af431ab29eac06dd73a2726b668bb"), looks := true }, kinds := [], alts := [], laidByText := true, laidKinds := [.data, .data, .data], laidTests := true, laidLooks := .later }
def ValueDeepUptoCardSaid : Prop := Claim7.holds Tryd.pinned (.plain (OpenSpec.upto valueDeepSpec)) valueDeepUptoCard

/-- THE SECOND FORM's CARD OF 'stolelaw4.ValueTruths'. -/
def valueTruthsUptoCard : Claim7 := { stood := { row := valueTruthsUptoRow, standIns := [], harness := (true, "646ecfe23c655ca2fe88f1f4bc97d618ea8af431ab29eac06dd73a2726b668bb"), looks := true }, kinds := [], alts := [], laidByText := true, laidKinds := [.data, .data, .data], laidTests := true, laidLooks := .later }
def ValueTruthsUptoCardSaid : Prop := Claim7.holds Tryd.pinned (.plain (OpenSpec.upto valueTruthsSpec)) valueTruthsUptoCard

/-- THE SECOND FORM's CARD OF 'stolelaw18.CallTruths'. -/
def callTruthsUptoCard : Claim7 := { stood := { row := callTruthsUptoRow, standIns := [], harness := (true, "646ecfe23c655ca2fe88f1f4bc97d618ea8af431ab29eac06dd73a2726b668bb"), looks := true }, kinds := [], alts := [], laidByText := true, laidKinds := [.data, .data, .data], laidTests := true, laidLooks := .later }
def CallTruthsUptoCardSaid : Prop := Claim7.holds Tryd.pinned (.plain (OpenSpec.upto callTruthsSpec)) callTruthsUptoCard

/-- THE SECOND FORM's CARD OF 'stolelaw18.CallLists'. -/
def callListsUptoCard : Claim7 := { stood := { row := callListsUptoRow, standIns := [], harness := (true, "646ecfe23c655ca2fe88f1f4bc97d618ea8af431ab29eac06dd73a2726b668bb"), looks := true }, kinds := [], alts := [], laidByText := true, laidKinds := [.data, .data, .data], laidTests := true, laidLooks := .later }
def CallListsUptoCardSaid : Prop := Claim7.holds Tryd.pinned (.plain (OpenSpec.upto callListsSpec)) callListsUptoCard

/-- THE SECOND FORM's CARD OF 'stolelaw18.CallForms'. -/
def callFormsUptoCard : Claim7 := { stood := { row := callFormsUptoRow, standIns := [], harness := (true, "646ecfe23c655ca2fe88f1f4bc97d618ea8af431ab29eac06dd73a2726b668bb"), looks := true }, kinds := [], alts := [], laidByText := true, laidKinds := [.data, .data, .data], laidTests := true, laidLooks := .later }
def CallFormsUptoCardSaid : Prop := Claim7.holds Tryd.pinned (.plain (OpenSpec.upto callFormsSpec)) callFormsUptoCard

/-- THE SECOND FORM's CARD OF 'stolelaw18.CallCats'. -/
def callCatsUptoCard : Claim7 := { stood := { row := callCatsUptoRow, standIns := [], harness := (true, "646ecfe23c655ca2fe88f1f4bc97d618ea8af431ab29eac06dd73a2726b668bb"), looks := true }, kinds := [], alts := [], laidByText := true, laidKinds := [.data, .data, .data], laidTests := true, laidLooks := .later }
def CallCatsUptoCardSaid : Prop := Claim7.holds Tryd.pinned (.plain (OpenSpec.upto callCatsSpec)) callCatsUptoCard

/-- THE SECOND FORM's CARD OF 'stolelaw18.CallRecords'. -/
def callRecordsUptoCard : Claim7 := { stood := { row := callRecordsUptoRow, standIns := [], harness := (true, "646ecfe23c655ca2fe88f1f4bc97d618ea8af431ab29eac06dd73a2726b668bb"), looks := true }, kinds := [], alts := [], laidByText := true, laidKinds := [.data, .data, .data], laidTests := true, laidLooks := .later }
def CallRecordsUptoCardSaid : Prop := Claim7.holds Tryd.pinned (.plain (OpenSpec.upto callRecordsSpec)) callRecordsUptoCard

/-- THE SECOND FORM's CARD OF 'stolelaw18.CallOrders'. -/
def callOrdersUptoCard : Claim7 := { stood := { row := callOrdersUptoRow, standIns := [], harness := (true, "646ecfe23c655ca2fe88f1f4bc97d618ea8af431ab29eac06dd73a2726b668bb"), looks := true }, kinds := [], alts := [], laidByText := true, laidKinds := [.data, .data, .data], laidTests := true, laidLooks := .later }
def CallOrdersUptoCardSaid : Prop := Claim7.holds Tryd.pinned (.plain (OpenSpec.upto callOrdersSpec)) callOrdersUptoCard

/-- THE SECOND FORM's CARD OF 'stolelaw19.EvalForms'. -/
def evalFormsUptoCard : Claim7 := { stood := { row := evalFormsUptoRow, standIns := [], harness := (true, "646ecfe23c655ca2fe88f1f4bc97d618ea8af431ab29eac06dd73a2726b668bb"), looks := true }, kinds := [], alts := [], laidByText := true, laidKinds := [.data, .data, .data], laidTests := true, laidLooks := .later }
def EvalFormsUptoCardSaid : Prop := Claim7.holds Tryd.pinned (.plain (OpenSpec.upto evalFormsSpec)) evalFormsUptoCard

/-- THE SECOND FORM's CARD OF 'stolelaw19.EvalConsts'. -/
def evalConstsUptoCard : Claim7 := { stood := { row := evalConstsUptoRow, standIns := [], harness := (true, "646ecfe23c655ca2fe88f1f4bc97d618ea8af431ab29eac06dd73a2726b668bb"), looks := true }, kinds := [], alts := [], laidByText := true, laidKinds := [.data, .data, .data], laidTests := true, laidLooks := .later }
def EvalConstsUptoCardSaid : Prop := Claim7.holds Tryd.pinned (.plain (OpenSpec.upto evalConstsSpec)) evalConstsUptoCard
end Rows
end Go.Proofs.YtepolmajebdphaaDoor
