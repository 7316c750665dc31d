/-
  NARROWER THAN 'FOR EVERY INPUT', by the rows' own cells (each row's printed sentence says how): Values: loops, laid · ValueReals: laid · ValueOrders: laid · ValueForms: laid · ValueDeep: laid · ValueTruths: laid · CallTruths: loops, laid · CallLists: loops, laid · CallForms: laid · CallCats: laid · CallRecords: loops, laid · CallOrders: laid · EvalForms: laid · EvalConsts: laid.
  DERIVED. THE GIVEN ROWS OF THIS SEAT. 14 by the template 'for every input the law returns true; each argument reads behind the call as it read before'; 0 by the template 'total and deterministic' (their statements: YtepolmajebdphaaDoorTotals.lean).
  GIVEN WITH THE SEED: the statements are not yours to turn. If you find one false, say at which input.
  Laid BY PROGRAM, IN A SANDBOX (cutbox-rows.mjs): the forced cells as the released guide's own fill.sh prints them over the translation cddde77ac4ce8a2f… (all of the seat's roots in one cut). By AI agents, Wed Nov 11 2026. No macro, syntax, notation, axiom, sorry.
-/
import Derived.Test.YtepolmajebdphaaDoorChecked
import GoSem.Claim
import GoSem.ClaimJoined
import GoSem.ClaimMapViews
import Derived.JoinedTies
import Derived.KernelRfl
namespace Go.Proofs.YtepolmajebdphaaDoor
/- THE CELL 'sum', in the pinned program and in every row, IS THE sha256 OF THE DUMP (.gsa) THAT YtepolmajebdphaaDoorProg.lean LOADS. Nothing in Lean hashes anything: it is a label: what it is worth is what the hold of that sum in a sandbox is worth. -/
noncomputable def Tryd.pinned : Pinned := { name := "ytepolmajebdphaadoor", sum := "cddde77ac4ce8a2f3a77fdf4e3d863ad08414f5c3f2343b0bd642de3c16abb56", checked := Tryd.checked }
namespace Rows
def none {H : Type} : Left H := { results := [], args := [] }

/- WHAT THE LISTED PACKAGE-LEVEL VARIABLES READ AS WHEN THE CALL BEGINS. Each datum BY PROGRAM (the guide's laid-datum.mjs) off the statement by which the dump's own 'gosem.cut.vars' lays the variable. In a bare row this is a premise. The card (YtepolmajebdphaaDoorCards.lean) ties it to the program's text. -/
def laid_math_bits_deBruijn32tab {H : Type} : DataW H := .agg [.lit (.int .u8 0), .lit (.int .u8 1), .lit (.int .u8 28), .lit (.int .u8 2), .lit (.int .u8 29), .lit (.int .u8 14), .lit (.int .u8 24), .lit (.int .u8 3), .lit (.int .u8 30), .lit (.int .u8 22), .lit (.int .u8 20), .lit (.int .u8 15), .lit (.int .u8 25), .lit (.int .u8 17), .lit (.int .u8 4), .lit (.int .u8 8), .lit (.int .u8 31), .lit (.int .u8 27), .lit (.int .u8 13), .lit (.int .u8 23), .lit (.int .u8 21), .lit (.int .u8 19), .lit (.int .u8 16), .lit (.int .u8 7), .lit (.int .u8 26), .lit (.int .u8 12), .lit (.int .u8 18), .lit (.int .u8 6), .lit (.int .u8 11), .lit (.int .u8 5), .lit (.int .u8 10), .lit (.int .u8 9)]
def laid_math_bits_deBruijn64tab {H : Type} : DataW H := .agg [.lit (.int .u8 0), .lit (.int .u8 1), .lit (.int .u8 56), .lit (.int .u8 2), .lit (.int .u8 57), .lit (.int .u8 49), .lit (.int .u8 28), .lit (.int .u8 3), .lit (.int .u8 61), .lit (.int .u8 58), .lit (.int .u8 42), .lit (.int .u8 50), .lit (.int .u8 38), .lit (.int .u8 29), .lit (.int .u8 17), .lit (.int .u8 4), .lit (.int .u8 62), .lit (.int .u8 47), .lit (.int .u8 59), .lit (.int .u8 36), .lit (.int .u8 45), .lit (.int .u8 43), .lit (.int .u8 51), .lit (.int .u8 22), .lit (.int .u8 53), .lit (.int .u8 39), .lit (.int .u8 33), .lit (.int .u8 30), .lit (.int .u8 24), .lit (.int .u8 18), .lit (.int .u8 12), .lit (.int .u8 5), .lit (.int .u8 63), .lit (.int .u8 55), .lit (.int .u8 48), .lit (.int .u8 27), .lit (.int .u8 60), .lit (.int .u8 41), .lit (.int .u8 37), .lit (.int .u8 16), .lit (.int .u8 46), .lit (.int .u8 35), .lit (.int .u8 44), .lit (.int .u8 21), .lit (.int .u8 52), .lit (.int .u8 32), .lit (.int .u8 23), .lit (.int .u8 11), .lit (.int .u8 54), .lit (.int .u8 26), .lit (.int .u8 40), .lit (.int .u8 15), .lit (.int .u8 34), .lit (.int .u8 20), .lit (.int .u8 31), .lit (.int .u8 10), .lit (.int .u8 25), .lit (.int .u8 14), .lit (.int .u8 19), .lit (.int .u8 9), .lit (.int .u8 13), .lit (.int .u8 8), .lit (.int .u8 7), .lit (.int .u8 6)]
def laid_internal_strconv_uint64pow10 {H : Type} : DataW H := .agg [.lit (.int .u64 1), .lit (.int .u64 10), .lit (.int .u64 100), .lit (.int .u64 1000), .lit (.int .u64 10000), .lit (.int .u64 100000), .lit (.int .u64 1000000), .lit (.int .u64 10000000), .lit (.int .u64 100000000), .lit (.int .u64 1000000000), .lit (.int .u64 10000000000), .lit (.int .u64 100000000000), .lit (.int .u64 1000000000000), .lit (.int .u64 10000000000000), .lit (.int .u64 100000000000000), .lit (.int .u64 1000000000000000), .lit (.int .u64 10000000000000000), .lit (.int .u64 100000000000000000), .lit (.int .u64 1000000000000000000), .lit (.int .u64 10000000000000000000)]

/-- 'stolelaw4.Values': WHATEVER THE INPUT: true; the input reads as it did. -/
def valuesSpec : ChangeSpec := { name := "values", fn := fun _ => fun
  | [d1, d2, d3] => { results := [.lit (.bool true)], args := [d1, d2, d3] }
  | _ => none }
def valuesRow : OpenClaim := { program := "ytepolmajebdphaadoor", sum := "cddde77ac4ce8a2f3a77fdf4e3d863ad08414f5c3f2343b0bd642de3c16abb56", func := "stole/stolelaw4.Values", spec := "values", inPlace := ["math.Float64frombits", "math.Float64bits", "math.archTrunc"], unfollowed := true, recurses := true, named := ["internal/strconv.uint64pow10", "math/bits.deBruijn32tab", "math/bits.deBruijn64tab"], loops := true, apart := false, laid := [("math/bits.deBruijn32tab", laid_math_bits_deBruijn32tab), ("math/bits.deBruijn64tab", laid_math_bits_deBruijn64tab), ("internal/strconv.uint64pow10", laid_internal_strconv_uint64pow10)] }
def ValuesSaid : Prop := valuesRow.holds Tryd.pinned (OpenSpec.ofChange valuesSpec)

/-- ITS FALSE NEIGHBOUR: 'it returns false'. Refute it at one input. -/
def valuesWrong : ChangeSpec := { name := "values", fn := fun _ => fun
  | [d1, d2, d3] => { results := [.lit (.bool false)], args := [d1, d2, d3] }
  | _ => none }
def ValuesWrongFalsely : Prop := valuesRow.holds Tryd.pinned (OpenSpec.ofChange valuesWrong)

/-- 'stolelaw4.ValueReals': WHATEVER THE INPUT: true; the input reads as it did. -/
def valueRealsSpec : ChangeSpec := { name := "valueReals", fn := fun _ => fun
  | [d1, d2, d3] => { results := [.lit (.bool true)], args := [d1, d2, d3] }
  | _ => none }
def valueRealsRow : OpenClaim := { program := "ytepolmajebdphaadoor", sum := "cddde77ac4ce8a2f3a77fdf4e3d863ad08414f5c3f2343b0bd642de3c16abb56", func := "stole/stolelaw4.ValueReals", spec := "valueReals", inPlace := ["math.Float64frombits", "math.Float64bits", "math.archTrunc"], unfollowed := true, recurses := true, named := ["internal/strconv.uint64pow10", "math/bits.deBruijn32tab", "math/bits.deBruijn64tab"], apart := false, laid := [("math/bits.deBruijn32tab", laid_math_bits_deBruijn32tab), ("math/bits.deBruijn64tab", laid_math_bits_deBruijn64tab), ("internal/strconv.uint64pow10", laid_internal_strconv_uint64pow10)] }
def ValueRealsSaid : Prop := valueRealsRow.holds Tryd.pinned (OpenSpec.ofChange valueRealsSpec)

/-- ITS FALSE NEIGHBOUR: 'it returns false'. Refute it at one input. -/
def valueRealsWrong : ChangeSpec := { name := "valueReals", fn := fun _ => fun
  | [d1, d2, d3] => { results := [.lit (.bool false)], args := [d1, d2, d3] }
  | _ => none }
def ValueRealsWrongFalsely : Prop := valueRealsRow.holds Tryd.pinned (OpenSpec.ofChange valueRealsWrong)

/-- 'stolelaw4.ValueOrders': WHATEVER THE INPUT: true; the input reads as it did. -/
def valueOrdersSpec : ChangeSpec := { name := "valueOrders", fn := fun _ => fun
  | [d1, d2, d3, d4] => { results := [.lit (.bool true)], args := [d1, d2, d3, d4] }
  | _ => none }
def valueOrdersRow : OpenClaim := { program := "ytepolmajebdphaadoor", sum := "cddde77ac4ce8a2f3a77fdf4e3d863ad08414f5c3f2343b0bd642de3c16abb56", func := "stole/stolelaw4.ValueOrders", spec := "valueOrders", inPlace := ["math.Float64frombits", "math.Float64bits", "math.archTrunc"], unfollowed := true, recurses := true, named := ["internal/strconv.uint64pow10", "math/bits.deBruijn32tab", "math/bits.deBruijn64tab"], apart := false, laid := [("math/bits.deBruijn32tab", laid_math_bits_deBruijn32tab), ("math/bits.deBruijn64tab", laid_math_bits_deBruijn64tab), ("internal/strconv.uint64pow10", laid_internal_strconv_uint64pow10)] }
def ValueOrdersSaid : Prop := valueOrdersRow.holds Tryd.pinned (OpenSpec.ofChange valueOrdersSpec)

/-- ITS FALSE NEIGHBOUR: 'it returns false'. Refute it at one input. -/
def valueOrdersWrong : ChangeSpec := { name := "valueOrders", fn := fun _ => fun
  | [d1, d2, d3, d4] => { results := [.lit (.bool false)], args := [d1, d2, d3, d4] }
  | _ => none }
def ValueOrdersWrongFalsely : Prop := valueOrdersRow.holds Tryd.pinned (OpenSpec.ofChange valueOrdersWrong)

/-- 'stolelaw4.ValueForms': WHATEVER THE INPUT: true; the input reads as it did. -/
def valueFormsSpec : ChangeSpec := { name := "valueForms", fn := fun _ => fun
  | [d1, d2] => { results := [.lit (.bool true)], args := [d1, d2] }
  | _ => none }
def valueFormsRow : OpenClaim := { program := "ytepolmajebdphaadoor", sum := "cddde77ac4ce8a2f3a77fdf4e3d863ad08414f5c3f2343b0bd642de3c16abb56", func := "stole/stolelaw4.ValueForms", spec := "valueForms", inPlace := ["math.Float64frombits", "math.Float64bits", "math.archTrunc"], unfollowed := true, recurses := true, named := ["internal/strconv.uint64pow10", "math/bits.deBruijn32tab", "math/bits.deBruijn64tab"], apart := false, laid := [("math/bits.deBruijn32tab", laid_math_bits_deBruijn32tab), ("math/bits.deBruijn64tab", laid_math_bits_deBruijn64tab), ("internal/strconv.uint64pow10", laid_internal_strconv_uint64pow10)] }
def ValueFormsSaid : Prop := valueFormsRow.holds Tryd.pinned (OpenSpec.ofChange valueFormsSpec)

/-- ITS FALSE NEIGHBOUR: 'it returns false'. Refute it at one input. -/
def valueFormsWrong : ChangeSpec := { name := "valueForms", fn := fun _ => fun
  | [d1, d2] => { results := [.lit (.bool false)], args := [d1, d2] }
  | _ => none }
def ValueFormsWrongFalsely : Prop := valueFormsRow.holds Tryd.pinned (OpenSpec.ofChange valueFormsWrong)

/-- 'stolelaw4.ValueDeep': WHATEVER THE INPUT: true; the input reads as it did. -/
def valueDeepSpec : ChangeSpec := { name := "valueDeep", fn := fun _ => fun
  | [d1, d2] => { results := [.lit (.bool true)], args := [d1, d2] }
  | _ => none }
def valueDeepRow : OpenClaim := { program := "ytepolmajebdphaadoor", sum := "cddde77ac4ce8a2f3a77fdf4e3d863ad08414f5c3f2343b0bd642de3c16abb56", func := "stole/stolelaw4.ValueDeep", spec := "valueDeep", inPlace := ["math.Float64frombits", "math.Float64bits", "math.archTrunc"], unfollowed := true, recurses := true, named := ["internal/strconv.uint64pow10", "math/bits.deBruijn32tab", "math/bits.deBruijn64tab"], apart := false, laid := [("math/bits.deBruijn32tab", laid_math_bits_deBruijn32tab), ("math/bits.deBruijn64tab", laid_math_bits_deBruijn64tab), ("internal/strconv.uint64pow10", laid_internal_strconv_uint64pow10)] }
def ValueDeepSaid : Prop := valueDeepRow.holds Tryd.pinned (OpenSpec.ofChange valueDeepSpec)

/-- ITS FALSE NEIGHBOUR: 'it returns false'. Refute it at one input. -/
def valueDeepWrong : ChangeSpec := { name := "valueDeep", fn := fun _ => fun
  | [d1, d2] => { results := [.lit (.bool false)], args := [d1, d2] }
  | _ => none }
def ValueDeepWrongFalsely : Prop := valueDeepRow.holds Tryd.pinned (OpenSpec.ofChange valueDeepWrong)

/-- 'stolelaw4.ValueTruths': WHATEVER THE INPUT: true; the input reads as it did. -/
def valueTruthsSpec : ChangeSpec := { name := "valueTruths", fn := fun _ => fun
  | [d1, d2, d3] => { results := [.lit (.bool true)], args := [d1, d2, d3] }
  | _ => none }
def valueTruthsRow : OpenClaim := { program := "ytepolmajebdphaadoor", sum := "cddde77ac4ce8a2f3a77fdf4e3d863ad08414f5c3f2343b0bd642de3c16abb56", func := "stole/stolelaw4.ValueTruths", spec := "valueTruths", inPlace := ["math.Float64frombits", "math.Float64bits", "math.archTrunc"], unfollowed := true, recurses := true, named := ["internal/strconv.uint64pow10", "math/bits.deBruijn32tab", "math/bits.deBruijn64tab"], apart := false, laid := [("math/bits.deBruijn32tab", laid_math_bits_deBruijn32tab), ("math/bits.deBruijn64tab", laid_math_bits_deBruijn64tab), ("internal/strconv.uint64pow10", laid_internal_strconv_uint64pow10)] }
def ValueTruthsSaid : Prop := valueTruthsRow.holds Tryd.pinned (OpenSpec.ofChange valueTruthsSpec)

/-- ITS FALSE NEIGHBOUR: 'it returns false'. Refute it at one input. -/
def valueTruthsWrong : ChangeSpec := { name := "valueTruths", fn := fun _ => fun
  | [d1, d2, d3] => { results := [.lit (.bool false)], args := [d1, d2, d3] }
  | _ => none }
def ValueTruthsWrongFalsely : Prop := valueTruthsRow.holds Tryd.pinned (OpenSpec.ofChange valueTruthsWrong)

/-- 'stolelaw18.CallTruths': WHATEVER THE INPUT: true; the input reads as it did. -/
def callTruthsSpec : ChangeSpec := { name := "callTruths", fn := fun _ => fun
  | [d1, d2] => { results := [.lit (.bool true)], args := [d1, d2] }
  | _ => none }
def callTruthsRow : OpenClaim := { program := "ytepolmajebdphaadoor", sum := "cddde77ac4ce8a2f3a77fdf4e3d863ad08414f5c3f2343b0bd642de3c16abb56", func := "stole/stolelaw18.CallTruths", spec := "callTruths", inPlace := ["math.Float64frombits", "math.Float64bits", "math.archTrunc", "internal/abi.NoEscape"], unfollowed := true, recurses := true, named := ["internal/strconv.uint64pow10", "math/bits.deBruijn32tab", "math/bits.deBruijn64tab"], loops := true, apart := false, laid := [("math/bits.deBruijn32tab", laid_math_bits_deBruijn32tab), ("math/bits.deBruijn64tab", laid_math_bits_deBruijn64tab), ("internal/strconv.uint64pow10", laid_internal_strconv_uint64pow10)] }
def CallTruthsSaid : Prop := callTruthsRow.holds Tryd.pinned (OpenSpec.ofChange callTruthsSpec)

/-- ITS FALSE NEIGHBOUR: 'it returns false'. Refute it at one input. -/
def callTruthsWrong : ChangeSpec := { name := "callTruths", fn := fun _ => fun
  | [d1, d2] => { results := [.lit (.bool false)], args := [d1, d2] }
  | _ => none }
def CallTruthsWrongFalsely : Prop := callTruthsRow.holds Tryd.pinned (OpenSpec.ofChange callTruthsWrong)

/-- 'stolelaw18.CallLists': WHATEVER THE INPUT: true; the input reads as it did. -/
def callListsSpec : ChangeSpec := { name := "callLists", fn := fun _ => fun
  | [d1, d2] => { results := [.lit (.bool true)], args := [d1, d2] }
  | _ => none }
def callListsRow : OpenClaim := { program := "ytepolmajebdphaadoor", sum := "cddde77ac4ce8a2f3a77fdf4e3d863ad08414f5c3f2343b0bd642de3c16abb56", func := "stole/stolelaw18.CallLists", spec := "callLists", inPlace := ["math.Float64frombits", "math.Float64bits", "math.archTrunc", "internal/abi.NoEscape"], unfollowed := true, recurses := true, named := ["internal/strconv.uint64pow10", "math/bits.deBruijn32tab", "math/bits.deBruijn64tab"], loops := true, apart := false, laid := [("math/bits.deBruijn32tab", laid_math_bits_deBruijn32tab), ("math/bits.deBruijn64tab", laid_math_bits_deBruijn64tab), ("internal/strconv.uint64pow10", laid_internal_strconv_uint64pow10)] }
def CallListsSaid : Prop := callListsRow.holds Tryd.pinned (OpenSpec.ofChange callListsSpec)

/-- ITS FALSE NEIGHBOUR: 'it returns false'. Refute it at one input. -/
def callListsWrong : ChangeSpec := { name := "callLists", fn := fun _ => fun
  | [d1, d2] => { results := [.lit (.bool false)], args := [d1, d2] }
  | _ => none }
def CallListsWrongFalsely : Prop := callListsRow.holds Tryd.pinned (OpenSpec.ofChange callListsWrong)

/-- 'stolelaw18.CallForms': WHATEVER THE INPUT: true; the input reads as it did. -/
def callFormsSpec : ChangeSpec := { name := "callForms", fn := fun _ => fun
  | [d1, d2] => { results := [.lit (.bool true)], args := [d1, d2] }
  | _ => none }
def callFormsRow : OpenClaim := { program := "ytepolmajebdphaadoor", sum := "cddde77ac4ce8a2f3a77fdf4e3d863ad08414f5c3f2343b0bd642de3c16abb56", func := "stole/stolelaw18.CallForms", spec := "callForms", inPlace := ["math.Float64frombits", "math.Float64bits", "math.archTrunc", "internal/abi.NoEscape"], unfollowed := true, recurses := true, named := ["internal/strconv.uint64pow10", "math/bits.deBruijn32tab", "math/bits.deBruijn64tab"], apart := false, laid := [("math/bits.deBruijn32tab", laid_math_bits_deBruijn32tab), ("math/bits.deBruijn64tab", laid_math_bits_deBruijn64tab), ("internal/strconv.uint64pow10", laid_internal_strconv_uint64pow10)] }
def CallFormsSaid : Prop := callFormsRow.holds Tryd.pinned (OpenSpec.ofChange callFormsSpec)

/-- ITS FALSE NEIGHBOUR: 'it returns false'. Refute it at one input. -/
def callFormsWrong : ChangeSpec := { name := "callForms", fn := fun _ => fun
  | [d1, d2] => { results := [.lit (.bool false)], args := [d1, d2] }
  | _ => none }
def CallFormsWrongFalsely : Prop := callFormsRow.holds Tryd.pinned (OpenSpec.ofChange callFormsWrong)

/-- 'stolelaw18.CallCats': WHATEVER THE INPUT: true; the input reads as it did. -/
def callCatsSpec : ChangeSpec := { name := "callCats", fn := fun _ => fun
  | [d1, d2, d3] => { results := [.lit (.bool true)], args := [d1, d2, d3] }
  | _ => none }
def callCatsRow : OpenClaim := { program := "ytepolmajebdphaadoor", sum := "cddde77ac4ce8a2f3a77fdf4e3d863ad08414f5c3f2343b0bd642de3c16abb56", func := "stole/stolelaw18.CallCats", spec := "callCats", inPlace := ["math.Float64frombits", "math.Float64bits", "math.archTrunc", "internal/abi.NoEscape"], unfollowed := true, recurses := true, named := ["internal/strconv.uint64pow10", "math/bits.deBruijn32tab", "math/bits.deBruijn64tab"], apart := false, laid := [("math/bits.deBruijn32tab", laid_math_bits_deBruijn32tab), ("math/bits.deBruijn64tab", laid_math_bits_deBruijn64tab), ("internal/strconv.uint64pow10", laid_internal_strconv_uint64pow10)] }
def CallCatsSaid : Prop := callCatsRow.holds Tryd.pinned (OpenSpec.ofChange callCatsSpec)

/-- ITS FALSE NEIGHBOUR: 'it returns false'. Refute it at one input. -/
def callCatsWrong : ChangeSpec := { name := "callCats", fn := fun _ => fun
  | [d1, d2, d3] => { results := [.lit (.bool false)], args := [d1, d2, d3] }
  | _ => none }
def CallCatsWrongFalsely : Prop := callCatsRow.holds Tryd.pinned (OpenSpec.ofChange callCatsWrong)

/-- 'stolelaw18.CallRecords': WHATEVER THE INPUT: true; the input reads as it did. -/
def callRecordsSpec : ChangeSpec := { name := "callRecords", fn := fun _ => fun
  | [d1, d2] => { results := [.lit (.bool true)], args := [d1, d2] }
  | _ => none }
def callRecordsRow : OpenClaim := { program := "ytepolmajebdphaadoor", sum := "cddde77ac4ce8a2f3a77fdf4e3d863ad08414f5c3f2343b0bd642de3c16abb56", func := "stole/stolelaw18.CallRecords", spec := "callRecords", inPlace := ["math.Float64frombits", "math.Float64bits", "math.archTrunc", "internal/abi.NoEscape"], unfollowed := true, recurses := true, named := ["internal/strconv.uint64pow10", "math/bits.deBruijn32tab", "math/bits.deBruijn64tab"], loops := true, apart := false, laid := [("math/bits.deBruijn32tab", laid_math_bits_deBruijn32tab), ("math/bits.deBruijn64tab", laid_math_bits_deBruijn64tab), ("internal/strconv.uint64pow10", laid_internal_strconv_uint64pow10)] }
def CallRecordsSaid : Prop := callRecordsRow.holds Tryd.pinned (OpenSpec.ofChange callRecordsSpec)

/-- ITS FALSE NEIGHBOUR: 'it returns false'. Refute it at one input. -/
def callRecordsWrong : ChangeSpec := { name := "callRecords", fn := fun _ => fun
  | [d1, d2] => { results := [.lit (.bool false)], args := [d1, d2] }
  | _ => none }
def CallRecordsWrongFalsely : Prop := callRecordsRow.holds Tryd.pinned (OpenSpec.ofChange callRecordsWrong)

/-- 'stolelaw18.CallOrders': WHATEVER THE INPUT: true; the input reads as it did. -/
def callOrdersSpec : ChangeSpec := { name := "callOrders", fn := fun _ => fun
  | [d1, d2, d3, d4] => { results := [.lit (.bool true)], args := [d1, d2, d3, d4] }
  | _ => none }
def callOrdersRow : OpenClaim := { program := "ytepolmajebdphaadoor", sum := "cddde77ac4ce8a2f3a77fdf4e3d863ad08414f5c3f2343b0bd642de3c16abb56", func := "stole/stolelaw18.CallOrders", spec := "callOrders", inPlace := ["math.Float64frombits", "math.Float64bits", "math.archTrunc", "internal/abi.NoEscape"], unfollowed := true, recurses := true, named := ["internal/strconv.uint64pow10", "math/bits.deBruijn32tab", "math/bits.deBruijn64tab"], apart := false, laid := [("math/bits.deBruijn32tab", laid_math_bits_deBruijn32tab), ("math/bits.deBruijn64tab", laid_math_bits_deBruijn64tab), ("internal/strconv.uint64pow10", laid_internal_strconv_uint64pow10)] }
def CallOrdersSaid : Prop := callOrdersRow.holds Tryd.pinned (OpenSpec.ofChange callOrdersSpec)

/-- ITS FALSE NEIGHBOUR: 'it returns false'. Refute it at one input. -/
def callOrdersWrong : ChangeSpec := { name := "callOrders", fn := fun _ => fun
  | [d1, d2, d3, d4] => { results := [.lit (.bool false)], args := [d1, d2, d3, d4] }
  | _ => none }
def CallOrdersWrongFalsely : Prop := callOrdersRow.holds Tryd.pinned (OpenSpec.ofChange callOrdersWrong)

/-- 'stolelaw19.EvalForms': WHATEVER THE INPUT: true; the input reads as it did. -/
def evalFormsSpec : ChangeSpec := { name := "evalForms", fn := fun _ => fun
  | [d1, d2] => { results := [.lit (.bool true)], args := [d1, d2] }
  | _ => none }
def evalFormsRow : OpenClaim := { program := "ytepolmajebdphaadoor", sum := "cddde77ac4ce8a2f3a77fdf4e3d863ad08414f5c3f2343b0bd642de3c16abb56", func := "stole/stolelaw19.EvalForms", spec := "evalForms", inPlace := ["math.Float64frombits", "math.Float64bits", "math.archTrunc", "internal/abi.NoEscape"], unfollowed := true, recurses := true, named := ["internal/strconv.uint64pow10", "math/bits.deBruijn32tab", "math/bits.deBruijn64tab"], apart := false, laid := [("math/bits.deBruijn32tab", laid_math_bits_deBruijn32tab), ("math/bits.deBruijn64tab", laid_math_bits_deBruijn64tab), ("internal/strconv.uint64pow10", laid_internal_strconv_uint64pow10)] }
def EvalFormsSaid : Prop := evalFormsRow.holds Tryd.pinned (OpenSpec.ofChange evalFormsSpec)

/-- ITS FALSE NEIGHBOUR: 'it returns false'. Refute it at one input. -/
def evalFormsWrong : ChangeSpec := { name := "evalForms", fn := fun _ => fun
  | [d1, d2] => { results := [.lit (.bool false)], args := [d1, d2] }
  | _ => none }
def EvalFormsWrongFalsely : Prop := evalFormsRow.holds Tryd.pinned (OpenSpec.ofChange evalFormsWrong)

/-- 'stolelaw19.EvalConsts': WHATEVER THE INPUT: true; the input reads as it did. -/
def evalConstsSpec : ChangeSpec := { name := "evalConsts", fn := fun _ => fun
  | [d1, d2, d3] => { results := [.lit (.bool true)], args := [d1, d2, d3] }
  | _ => none }
def evalConstsRow : OpenClaim := { program := "ytepolmajebdphaadoor", sum := "cddde77ac4ce8a2f3a77fdf4e3d863ad08414f5c3f2343b0bd642de3c16abb56", func := "stole/stolelaw19.EvalConsts", spec := "evalConsts", inPlace := ["math.Float64frombits", "math.Float64bits", "math.archTrunc", "internal/abi.NoEscape"], unfollowed := true, recurses := true, named := ["internal/strconv.uint64pow10", "math/bits.deBruijn32tab", "math/bits.deBruijn64tab"], apart := false, laid := [("math/bits.deBruijn32tab", laid_math_bits_deBruijn32tab), ("math/bits.deBruijn64tab", laid_math_bits_deBruijn64tab), ("internal/strconv.uint64pow10", laid_internal_strconv_uint64pow10)] }
def EvalConstsSaid : Prop := evalConstsRow.holds Tryd.pinned (OpenSpec.ofChange evalConstsSpec)

/-- ITS FALSE NEIGHBOUR: 'it returns false'. Refute it at one input. -/
def evalConstsWrong : ChangeSpec := { name := "evalConsts", fn := fun _ => fun
  | [d1, d2, d3] => { results := [.lit (.bool false)], args := [d1, d2, d3] }
  | _ => none }
def EvalConstsWrongFalsely : Prop := evalConstsRow.holds Tryd.pinned (OpenSpec.ofChange evalConstsWrong)

/- THE SECOND FORM. 'bulk': how many values and letters a reading holds, each counted each time it is reached (what is shared counts as often as it is met; a slice's spare places count too). A statement '..UptoSaid' is the law's where the arguments, and the package variables that the reading takes, are together of bulk at most 1048576: NARROWER than '..Said'. Prove '..Said' where nothing that the law and all that it calls make is longer than what came in: it says more and counts as full. Else prove '..UptoSaid'. A law counts once. -/
mutual
def uptoBulk {H : Type} : DataW H → Nat
  | .lit (.string bytes) => bytes.length + 1
  | .lit _ => 1
  | .nil => 1
  | .ptr d => uptoBulk d + 1
  | .slice elems spare => uptoBulkAll elems + uptoBulkAll spare + 1
  | .agg parts => uptoBulkAll parts + 1
  | .iface _ d => uptoBulk d + 1
  | .map entries => uptoBulkEntries entries + 1
  | .held _ => 1
def uptoBulkAll {H : Type} : List (DataW H) → Nat
  | [] => 0
  | d :: r => uptoBulk d + uptoBulkAll r
def uptoBulkEntries {H : Type} : List (Lit × DataW H) → Nat
  | [] => 0
  | x :: r => uptoBulkEntry x + uptoBulkEntries r
def uptoBulkEntry {H : Type} : Lit × DataW H → Nat
  | (.string bytes, d) => bytes.length + uptoBulk d + 1
  | (_, d) => uptoBulk d + 1
 end
def uptoSmall : (H : Type) → List (DataW H) → Bool := fun _ ds => decide (uptoBulkAll ds ≤ 1048576)
def OpenSpec.upto (s : _root_.Go.ChangeSpec) : _root_.Go.OpenSpec := { _root_.Go.OpenSpec.ofChange s with cond := some uptoSmall }

/-- 'stolelaw4.Values', WHERE WHAT IT READS IS OF BULK AT MOST 1048576: true; the input reads as it did. -/
def valuesUptoRow : OpenClaim := { program := "ytepolmajebdphaadoor", sum := "cddde77ac4ce8a2f3a77fdf4e3d863ad08414f5c3f2343b0bd642de3c16abb56", func := "stole/stolelaw4.Values", spec := "values", inPlace := ["math.Float64frombits", "math.Float64bits", "math.archTrunc"], unfollowed := true, recurses := true, named := ["internal/strconv.uint64pow10", "math/bits.deBruijn32tab", "math/bits.deBruijn64tab"], loops := true, apart := false, laid := [("math/bits.deBruijn32tab", laid_math_bits_deBruijn32tab), ("math/bits.deBruijn64tab", laid_math_bits_deBruijn64tab), ("internal/strconv.uint64pow10", laid_internal_strconv_uint64pow10)], narrowed := true }
def ValuesUptoSaid : Prop := valuesUptoRow.holds Tryd.pinned (OpenSpec.upto valuesSpec)

/-- 'stolelaw4.ValueReals', WHERE WHAT IT READS IS OF BULK AT MOST 1048576: true; the input reads as it did. -/
def valueRealsUptoRow : OpenClaim := { program := "ytepolmajebdphaadoor", sum := "cddde77ac4ce8a2f3a77fdf4e3d863ad08414f5c3f2343b0bd642de3c16abb56", func := "stole/stolelaw4.ValueReals", spec := "valueReals", inPlace := ["math.Float64frombits", "math.Float64bits", "math.archTrunc"], unfollowed := true, recurses := true, named := ["internal/strconv.uint64pow10", "math/bits.deBruijn32tab", "math/bits.deBruijn64tab"], apart := false, laid := [("math/bits.deBruijn32tab", laid_math_bits_deBruijn32tab), ("math/bits.deBruijn64tab", laid_math_bits_deBruijn64tab), ("internal/strconv.uint64pow10", laid_internal_strconv_uint64pow10)], narrowed := true }
def ValueRealsUptoSaid : Prop := valueRealsUptoRow.holds Tryd.pinned (OpenSpec.upto valueRealsSpec)

/-- 'stolelaw4.ValueOrders', WHERE WHAT IT READS IS OF BULK AT MOST 1048576: true; the input reads as it did. -/
def valueOrdersUptoRow : OpenClaim := { program := "ytepolmajebdphaadoor", sum := "cddde77ac4ce8a2f3a77fdf4e3d863ad08414f5c3f2343b0bd642de3c16abb56", func := "stole/stolelaw4.ValueOrders", spec := "valueOrders", inPlace := ["math.Float64frombits", "math.Float64bits", "math.archTrunc"], unfollowed := true, recurses := true, named := ["internal/strconv.uint64pow10", "math/bits.deBruijn32tab", "math/bits.deBruijn64tab"], apart := false, laid := [("math/bits.deBruijn32tab", laid_math_bits_deBruijn32tab), ("math/bits.deBruijn64tab", laid_math_bits_deBruijn64tab), ("internal/strconv.uint64pow10", laid_internal_strconv_uint64pow10)], narrowed := true }
def ValueOrdersUptoSaid : Prop := valueOrdersUptoRow.holds Tryd.pinned (OpenSpec.upto valueOrdersSpec)

/-- 'stolelaw4.ValueForms', WHERE WHAT IT READS IS OF BULK AT MOST 1048576: true; the input reads as it did. -/
def valueFormsUptoRow : OpenClaim := { program := "ytepolmajebdphaadoor", sum := "cddde77ac4ce8a2f3a77fdf4e3d863ad08414f5c3f2343b0bd642de3c16abb56", func := "stole/stolelaw4.ValueForms", spec := "valueForms", inPlace := ["math.Float64frombits", "math.Float64bits", "math.archTrunc"], unfollowed := true, recurses := true, named := ["internal/strconv.uint64pow10", "math/bits.deBruijn32tab", "math/bits.deBruijn64tab"], apart := false, laid := [("math/bits.deBruijn32tab", laid_math_bits_deBruijn32tab), ("math/bits.deBruijn64tab", laid_math_bits_deBruijn64tab), ("internal/strconv.uint64pow10", laid_internal_strconv_uint64pow10)], narrowed := true }
def ValueFormsUptoSaid : Prop := valueFormsUptoRow.holds Tryd.pinned (OpenSpec.upto valueFormsSpec)

/-- 'stolelaw4.ValueDeep', WHERE WHAT IT READS IS OF BULK AT MOST 1048576: true; the input reads as it did. -/
def valueDeepUptoRow : OpenClaim := { program := "ytepolmajebdphaadoor", sum := "cddde77ac4ce8a2f3a77fdf4e3d863ad08414f5c3f2343b0bd642de3c16abb56", func := "stole/stolelaw4.ValueDeep", spec := "valueDeep", inPlace := ["math.Float64frombits", "math.Float64bits", "math.archTrunc"], unfollowed := true, recurses := true, named := ["internal/strconv.uint64pow10", "math/bits.deBruijn32tab", "math/bits.deBruijn64tab"], apart := false, laid := [("math/bits.deBruijn32tab", laid_math_bits_deBruijn32tab), ("math/bits.deBruijn64tab", laid_math_bits_deBruijn64tab), ("internal/strconv.uint64pow10", laid_internal_strconv_uint64pow10)], narrowed := true }
def ValueDeepUptoSaid : Prop := valueDeepUptoRow.holds Tryd.pinned (OpenSpec.upto valueDeepSpec)

/-- 'stolelaw4.ValueTruths', WHERE WHAT IT READS IS OF BULK AT MOST 1048576: true; the input reads as it did. -/
def valueTruthsUptoRow : OpenClaim := { program := "ytepolmajebdphaadoor", sum := "cddde77ac4ce8a2f3a77fdf4e3d863ad08414f5c3f2343b0bd642de3c16abb56", func := "stole/stolelaw4.ValueTruths", spec := "valueTruths", inPlace := ["math.Float64frombits", "math.Float64bits", "math.archTrunc"], unfollowed := true, recurses := true, named := ["internal/strconv.uint64pow10", "math/bits.deBruijn32tab", "math/bits.deBruijn64tab"], apart := false, laid := [("math/bits.deBruijn32tab", laid_math_bits_deBruijn32tab), ("math/bits.deBruijn64tab", laid_math_bits_deBruijn64tab), ("internal/strconv.uint64pow10", laid_internal_strconv_uint64pow10)], narrowed := true }
def ValueTruthsUptoSaid : Prop := valueTruthsUptoRow.holds Tryd.pinned (OpenSpec.upto valueTruthsSpec)

/-- 'stolelaw18.CallTruths', WHERE WHAT IT READS IS OF BULK AT MOST 1048576: true; the input reads as it did. -/
def callTruthsUptoRow : OpenClaim := { program := "ytepolmajebdphaadoor", sum := "cddde77ac4ce8a2f3a77fdf4e3d863ad08414f5c3f2343b0bd642de3c16abb56", func := "stole/stolelaw18.CallTruths", spec := "callTruths", inPlace := ["math.Float64frombits", "math.Float64bits", "math.archTrunc", "internal/abi.NoEscape"], unfollowed := true, recurses := true, named := ["internal/strconv.uint64pow10", "math/bits.deBruijn32tab", "math/bits.deBruijn64tab"], loops := true, apart := false, laid := [("math/bits.deBruijn32tab", laid_math_bits_deBruijn32tab), ("math/bits.deBruijn64tab", laid_math_bits_deBruijn64tab), ("internal/strconv.uint64pow10", laid_internal_strconv_uint64pow10)], narrowed := true }
def CallTruthsUptoSaid : Prop := callTruthsUptoRow.holds Tryd.pinned (OpenSpec.upto callTruthsSpec)

/-- 'stolelaw18.CallLists', WHERE WHAT IT READS IS OF BULK AT MOST 1048576: true; the input reads as it did. -/
def callListsUptoRow : OpenClaim := { program := "ytepolmajebdphaadoor", sum := "cddde77ac4ce8a2f3a77fdf4e3d863ad08414f5c3f2343b0bd642de3c16abb56", func := "stole/stolelaw18.CallLists", spec := "callLists", inPlace := ["math.Float64frombits", "math.Float64bits", "math.archTrunc", "internal/abi.NoEscape"], unfollowed := true, recurses := true, named := ["internal/strconv.uint64pow10", "math/bits.deBruijn32tab", "math/bits.deBruijn64tab"], loops := true, apart := false, laid := [("math/bits.deBruijn32tab", laid_math_bits_deBruijn32tab), ("math/bits.deBruijn64tab", laid_math_bits_deBruijn64tab), ("internal/strconv.uint64pow10", laid_internal_strconv_uint64pow10)], narrowed := true }
def CallListsUptoSaid : Prop := callListsUptoRow.holds Tryd.pinned (OpenSpec.upto callListsSpec)

/-- 'stolelaw18.CallForms', WHERE WHAT IT READS IS OF BULK AT MOST 1048576: true; the input reads as it did. -/
def callFormsUptoRow : OpenClaim := { program := "ytepolmajebdphaadoor", sum := "cddde77ac4ce8a2f3a77fdf4e3d863ad08414f5c3f2343b0bd642de3c16abb56", func := "stole/stolelaw18.CallForms", spec := "callForms", inPlace := ["math.Float64frombits", "math.Float64bits", "math.archTrunc", "internal/abi.NoEscape"], unfollowed := true, recurses := true, named := ["internal/strconv.uint64pow10", "math/bits.deBruijn32tab", "math/bits.deBruijn64tab"], apart := false, laid := [("math/bits.deBruijn32tab", laid_math_bits_deBruijn32tab), ("math/bits.deBruijn64tab", laid_math_bits_deBruijn64tab), ("internal/strconv.uint64pow10", laid_internal_strconv_uint64pow10)], narrowed := true }
def CallFormsUptoSaid : Prop := callFormsUptoRow.holds Tryd.pinned (OpenSpec.upto callFormsSpec)

/-- 'stolelaw18.CallCats', WHERE WHAT IT READS IS OF BULK AT MOST 1048576: true; the input reads as it did. -/
def callCatsUptoRow : OpenClaim := { program := "ytepolmajebdphaadoor", sum := "cddde77ac4ce8a2f3a77fdf4e3d863ad08414f5c3f2343b0bd642de3c16abb56", func := "stole/stolelaw18.CallCats", spec := "callCats", inPlace := ["math.Float64frombits", "math.Float64bits", "math.archTrunc", "internal/abi.NoEscape"], unfollowed := true, recurses := true, named := ["internal/strconv.uint64pow10", "math/bits.deBruijn32tab", "math/bits.deBruijn64tab"], apart := false, laid := [("math/bits.deBruijn32tab", laid_math_bits_deBruijn32tab), ("math/bits.deBruijn64tab", laid_math_bits_deBruijn64tab), ("internal/strconv.uint64pow10", laid_internal_strconv_uint64pow10)], narrowed := true }
def CallCatsUptoSaid : Prop := callCatsUptoRow.holds Tryd.pinned (OpenSpec.upto callCatsSpec)

/-- 'stolelaw18.CallRecords', WHERE WHAT IT READS IS OF BULK AT MOST 1048576: true; the input reads as it did. -/
def callRecordsUptoRow : OpenClaim := { program := "ytepolmajebdphaadoor", sum := "cddde77ac4ce8a2f3a77fdf4e3d863ad08414f5c3f2343b0bd642de3c16abb56", func := "stole/stolelaw18.CallRecords", spec := "callRecords", inPlace := ["math.Float64frombits", "math.Float64bits", "math.archTrunc", "internal/abi.NoEscape"], unfollowed := true, recurses := true, named := ["internal/strconv.uint64pow10", "math/bits.deBruijn32tab", "math/bits.deBruijn64tab"], loops := true, apart := false, laid := [("math/bits.deBruijn32tab", laid_math_bits_deBruijn32tab), ("math/bits.deBruijn64tab", laid_math_bits_deBruijn64tab), ("internal/strconv.uint64pow10", laid_internal_strconv_uint64pow10)], narrowed := true }
def CallRecordsUptoSaid : Prop := callRecordsUptoRow.holds Tryd.pinned (OpenSpec.upto callRecordsSpec)

/-- 'stolelaw18.CallOrders', WHERE WHAT IT READS IS OF BULK AT MOST 1048576: true; the input reads as it did. -/
def callOrdersUptoRow : OpenClaim := { program := "ytepolmajebdphaadoor", sum := "cddde77ac4ce8a2f3a77fdf4e3d863ad08414f5c3f2343b0bd642de3c16abb56", func := "stole/stolelaw18.CallOrders", spec := "callOrders", inPlace := ["math.Float64frombits", "math.Float64bits", "math.archTrunc", "internal/abi.NoEscape"], unfollowed := true, recurses := true, named := ["internal/strconv.uint64pow10", "math/bits.deBruijn32tab", "math/bits.deBruijn64tab"], apart := false, laid := [("math/bits.deBruijn32tab", laid_math_bits_deBruijn32tab), ("math/bits.deBruijn64tab", laid_math_bits_deBruijn64tab), ("internal/strconv.uint64pow10", laid_internal_strconv_uint64pow10)], narrowed := true }
def CallOrdersUptoSaid : Prop := callOrdersUptoRow.holds Tryd.pinned (OpenSpec.upto callOrdersSpec)

/-- 'stolelaw19.EvalForms', WHERE WHAT IT READS IS OF BULK AT MOST 1048576: true; the input reads as it did. -/
def evalFormsUptoRow : OpenClaim := { program := "ytepolmajebdphaadoor", sum := "cddde77ac4ce8a2f3a77fdf4e3d863ad08414f5c3f2343b0bd642de3c16abb56", func := "stole/stolelaw19.EvalForms", spec := "evalForms", inPlace := ["math.Float64frombits", "math.Float64bits", "math.archTrunc", "internal/abi.NoEscape"], unfollowed := true, recurses := true, named := ["internal/strconv.uint64pow10", "math/bits.deBruijn32tab", "math/bits.deBruijn64tab"], apart := false, laid := [("math/bits.deBruijn32tab", laid_math_bits_deBruijn32tab), ("math/bits.deBruijn64tab", laid_math_bits_deBruijn64tab), ("internal/strconv.uint64pow10", laid_internal_strconv_uint64pow10)], narrowed := true }
def EvalFormsUptoSaid : Prop := evalFormsUptoRow.holds Tryd.pinned (OpenSpec.upto evalFormsSpec)

/-- 'stolelaw19.EvalConsts', WHERE WHAT IT READS IS OF BULK AT MOST 1048576: true; the input reads as it did. -/
def evalConstsUptoRow : OpenClaim := { program := "ytepolmajebdphaadoor", sum := "cddde77ac4ce8a2f3a77fdf4e3d863ad08414f5c3f2343b0bd642de3c16abb56", func := "stole/stolelaw19.EvalConsts", spec := "evalConsts", inPlace := ["math.Float64frombits", "math.Float64bits", "math.archTrunc", "internal/abi.NoEscape"], unfollowed := true, recurses := true, named := ["internal/strconv.uint64pow10", "math/bits.deBruijn32tab", "math/bits.deBruijn64tab"], apart := false, laid := [("math/bits.deBruijn32tab", laid_math_bits_deBruijn32tab), ("math/bits.deBruijn64tab", laid_math_bits_deBruijn64tab), ("internal/strconv.uint64pow10", laid_internal_strconv_uint64pow10)], narrowed := true }
def EvalConstsUptoSaid : Prop := evalConstsUptoRow.holds Tryd.pinned (OpenSpec.upto evalConstsSpec)

end Rows
end Go.Proofs.YtepolmajebdphaaDoor
