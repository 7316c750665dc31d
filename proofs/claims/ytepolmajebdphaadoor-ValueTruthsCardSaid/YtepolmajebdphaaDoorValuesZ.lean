/- value.True's contract at a value without items and keys, in a form that fits at sight. -/
import Derived.Test.YtepolmajebdphaaDoorValues
namespace Go.Proofs.YtepolmajebdphaaDoor.Values
open Go.RowKit Go.Proofs.YtepolmajebdphaaDoor.Q Go.Proofs.YtepolmajebdphaaDoor.Real Go.Proofs.YtepolmajebdphaaDoor.RealPure Go.Proofs.YtepolmajebdphaaDoorW.PrintWords Go.Proofs.YtepolmajebdphaaDoorW.PrintLast Go.Proofs.YtepolmajebdphaaDoorW.PrintMore

theorem value_True.calls0 (a0 a1 a2 : Int) (s : ByteArray) (r : Bool) (w : World) (h : value_True.f a0 a1 a2 s [] [] = some r) :
    Calls Tryd.prog 30 #[.agg #[.int .i64 a0, .int .i64 a1, .int .u64 a2, .string s, .slice none 0 0, .slice none 0 0]] w fun e w' => e = .returned (.bool r) ∧ Below w.heap.size w w' :=
  value_True.calls a0 a1 a2 s none 0 [] none 0 [] r w (Kd.C_nil _ _) (Nat.le_refl _) (Kd.C_nil _ _) (Nat.le_refl _) h
end Go.Proofs.YtepolmajebdphaaDoor.Values
