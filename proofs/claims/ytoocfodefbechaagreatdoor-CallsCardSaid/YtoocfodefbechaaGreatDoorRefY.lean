/- True and Text of the reference in the print's form. -/
import Derived.Test.YtoocfodefbechaaGreatDoorRefX
namespace Go.Proofs.YtoocfodefbechaaGreatDoor.Values
open Go.RowKit Go.Proofs.YtoocfodefbechaaGreatDoor.Q Go.Proofs.YtoocfodefbechaaGreatDoor.Real Go.Proofs.YtoocfodefbechaaGreatDoor.RealPure Go.Proofs.YtoocfodefbechaaGreatDoorW.PrintWords Go.Proofs.YtoocfodefbechaaGreatDoorW.PrintLast Go.Proofs.YtoocfodefbechaaGreatDoorW.PrintMore
set_option linter.unusedSimpArgs false
set_option linter.unusedVariables false
def stoleref1_True.f (a0_0 : Int) (a0_1 : Int) (a0_2 : Int) (a0_3 : ByteArray) (l0_4 : List V) (l0_5 : List ByteArray) : Option Bool := if 0 ≤ a0_2 ∧ a0_2 < 2 ^ 64 then some (mayB (⟨a0_0, a0_1, a0_2, a0_3, l0_4, l0_5⟩ : V) && truthB (⟨a0_0, a0_1, a0_2, a0_3, l0_4, l0_5⟩ : V)) else none
theorem stoleref1_True.calls (a0_0 : Int) (a0_1 : Int) (a0_2 : Int) (a0_3 : ByteArray) (A0_4 : Option Addr) (c0_4 : Nat) (l0_4 : List V) (A0_5 : Option Addr) (c0_5 : Nat) (l0_5 : List ByteArray) (r : Bool) (w : World) (hr0_4 : Kd.C k27 w A0_4 l0_4.length l0_4) (hc0_4 : l0_4.length ≤ c0_4) (hr0_5 : Kd.C Kd.string w A0_5 l0_5.length l0_5) (hc0_5 : l0_5.length ≤ c0_5) (h : stoleref1_True.f a0_0 a0_1 a0_2 a0_3 l0_4 l0_5 = some r) :
    Calls Tryz.prog 25 #[.agg #[.int .i64 a0_0, .int .i64 a0_1, .int .u64 a0_2, .string a0_3, .slice A0_4 l0_4.length c0_4, .slice A0_5 l0_5.length c0_5]] w fun e w' => e = .returned (.bool r) ∧ Below w.heap.size w w' := by
  unfold stoleref1_True.f at h
  split at h
  · rename_i hb
    cases h
    exact RefTrue_calls (⟨a0_0, a0_1, a0_2, a0_3, l0_4, l0_5⟩ : V) A0_4 c0_4 A0_5 c0_5 w ⟨hr0_4, hc0_4, hr0_5, hc0_5⟩ hb.1 hb.2
  · cases h
def stoleref1_Text.f (a0_0 : Int) (a0_1 : Int) (a0_2 : Int) (a0_3 : ByteArray) (l0_4 : List V) (l0_5 : List ByteArray) : Option (ByteArray × Int) := if 0 ≤ a0_2 ∧ a0_2 < 2 ^ 64 then some (if mayB (⟨a0_0, a0_1, a0_2, a0_3, l0_4, l0_5⟩ : V) = true then saidS (⟨a0_0, a0_1, a0_2, a0_3, l0_4, l0_5⟩ : V) else ⟨#[]⟩, if mayB (⟨a0_0, a0_1, a0_2, a0_3, l0_4, l0_5⟩ : V) = true then saidE (⟨a0_0, a0_1, a0_2, a0_3, l0_4, l0_5⟩ : V) else 400) else none
theorem stoleref1_Text.calls (a0_0 : Int) (a0_1 : Int) (a0_2 : Int) (a0_3 : ByteArray) (A0_4 : Option Addr) (c0_4 : Nat) (l0_4 : List V) (A0_5 : Option Addr) (c0_5 : Nat) (l0_5 : List ByteArray) (r1 : ByteArray) (r2 : Int) (w : World) (hr0_4 : Kd.C k27 w A0_4 l0_4.length l0_4) (hc0_4 : l0_4.length ≤ c0_4) (hr0_5 : Kd.C Kd.string w A0_5 l0_5.length l0_5) (hc0_5 : l0_5.length ≤ c0_5) (h : stoleref1_Text.f a0_0 a0_1 a0_2 a0_3 l0_4 l0_5 = some (r1, r2)) :
    Calls Tryz.prog 50 #[.agg #[.int .i64 a0_0, .int .i64 a0_1, .int .u64 a0_2, .string a0_3, .slice A0_4 l0_4.length c0_4, .slice A0_5 l0_5.length c0_5]] w fun e w' => e = .returned (.tuple #[.string r1, .int .i64 r2]) ∧ Below w.heap.size w w' := by
  unfold stoleref1_Text.f at h
  split at h
  · rename_i hb
    cases h
    exact RefText_calls (⟨a0_0, a0_1, a0_2, a0_3, l0_4, l0_5⟩ : V) A0_4 c0_4 A0_5 c0_5 w ⟨hr0_4, hc0_4, hr0_5, hc0_5⟩ hb.1 hb.2
  · cases h
end Go.Proofs.YtoocfodefbechaaGreatDoor.Values
