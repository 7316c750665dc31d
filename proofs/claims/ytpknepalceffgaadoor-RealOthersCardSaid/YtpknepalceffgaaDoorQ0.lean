-- By splice.py, a program of this session's, over the kit's print: a text of this seat's own.
import Derived.Test.YtpknepalceffgaaDoorProg
import Derived.Below
import Derived.Deep.Draws
import Derived.Deep.AppendLies
import Derived.Maps.AppendAt
import Derived.OwnWalk
import Derived.Laws.BytesArg
import Derived.Laws.MakeOwn
import Derived.Laws.OwnMore
import Derived.Deep.OwnRows
import Derived.Tactics
import Derived.Lib.ConvBytes
import Derived.Laws.Slices
import Derived.WalkKit
import Derived.KernelRfl
import Derived.RowKit3
import Derived.Deep.LoopGhost
import Derived.Deep.QuietTactic
import Derived.BigQuiet
import Derived.WideLaws
import Derived.Deep.DeepCutAuto
import Derived.Deep.CutBlock
import Derived.Deep.RegionHeld3
import Derived.Laws.Rows
import Derived.Lib.AppendStr
import Derived.ArgAppend
import Derived.Laws.IdiomCopy
import Derived.OrdersHeld
import Derived.Laws.BitsLemmas
import Derived.RowKit
import Derived.Test.YtpknepalceffgaaDoorOwn
import Derived.Test.YtpknepalceffgaaDoorWWords
import Derived.Test.YtpknepalceffgaaDoorWLast
import Derived.Test.YtpknepalceffgaaDoorWTab
import Derived.Test.YtpknepalceffgaaDoorWFour
import Derived.Test.YtpknepalceffgaaDoorWQPut
import Derived.Test.YtpknepalceffgaaDoorWApart
import Derived.Test.YtpknepalceffgaaDoorWArr
import Derived.Test.YtpknepalceffgaaDoorWZeros
import Derived.Test.YtpknepalceffgaaDoorWFoot
import Derived.Test.YtpknepalceffgaaDoorWKept
import Derived.Test.YtpknepalceffgaaDoorWShare
import Derived.Test.YtpknepalceffgaaDoorWN
import Derived.Test.YtpknepalceffgaaDoorWFootNe
import Derived.Test.YtpknepalceffgaaDoorWAt
import Derived.Test.YtpknepalceffgaaDoorWEqStruct
import Derived.Test.YtpknepalceffgaaDoorWRepsOne
import Derived.Test.YtpknepalceffgaaDoorWInv
import Derived.Test.YtpknepalceffgaaDoorWInvWords
import Derived.Test.YtpknepalceffgaaDoorWGuard
import Derived.Test.YtpknepalceffgaaDoorWNEv
import Derived.Test.YtpknepalceffgaaDoorWMore
namespace Go.Proofs.YtpknepalceffgaaDoor.Q
open Go.RowKit Go.Proofs.YtpknepalceffgaaDoorW.PrintWords Go.Proofs.YtpknepalceffgaaDoorW.PrintLast Go.Proofs.YtpknepalceffgaaDoorW.PrintMore
attribute [local go_sem] max2_int min2_int max_two min_two max_three min_three max_four min_four   -- for this text's walks alone
set_option linter.unusedVariables false
set_option linter.unusedSimpArgs false



def errW : Option Int → Value
  | none => .nilIface
  | some c => .iface 0 (.int .i64 c)
theorem errW_none : errW none = .nilIface := rfl
theorem errW_some (c : Int) : errW (some c) = .iface 0 (.int .i64 c) := rfl

theorem info5 : (Tryd.prog.info? 5).map (fun i => (i.zero, i.size, i.bytes)) = some (some (.int .u8 0), 1, 1) := by kernel_rfl
-- the values' own types

end Go.Proofs.YtpknepalceffgaaDoor.Q
