/- Plain lemmas on the printed functions of the real laws: shifts, masks, the constants' sentence. -/
import Derived.Test.YtoocfodefbechaaGreatDoorRR
import Derived.Test.YtoocfodefbechaaGreatDoorRealText
import Derived.Lib.Strings
import Derived.Lib.ItoaLen
namespace Go.Proofs.YtoocfodefbechaaGreatDoor.PureReals
open Go.RowKit Go.Proofs.YtoocfodefbechaaGreatDoor.Q Go.Proofs.YtoocfodefbechaaGreatDoor.Real Go.Proofs.YtoocfodefbechaaGreatDoor.RealPure Go.Proofs.YtoocfodefbechaaGreatDoorW.PrintWords Go.Proofs.YtoocfodefbechaaGreatDoorW.PrintLast Go.Proofs.YtoocfodefbechaaGreatDoorW.PrintMore


theorem wf_u64 {a : Int} (h : (Lit.int .u64 a).wf = true) : ∃ b : Nat, a = b ∧ b < 2 ^ 64 := by
  have h' : 0 ≤ a ∧ a ≤ 18446744073709551615 := by simpa [Lit.wf, IntKind.min, IntKind.max, IntKind.signed, IntKind.bits] using h
  exact ⟨a.toNat, by omega, by omega⟩
theorem wf_i64 {a : Int} (h : (Lit.int .i64 a).wf = true) : -9223372036854775808 ≤ a ∧ a ≤ 9223372036854775807 := by
  simpa [Lit.wf, IntKind.min, IntKind.max, IntKind.signed, IntKind.bits] using h

theorem wrap_u64 (x : Int) (h0 : 0 ≤ x) (h1 : x < 18446744073709551616) : IntKind.u64.wrap x = x := by
  rw [IntKind.wrap_u64]; omega

theorem shl_pow (m n : Nat) (hn : n ≤ 63) (h : m * 2 ^ n < 2 ^ 64) : shl .u64 (m : Int) (n : Int) = ((m * 2 ^ n : Nat) : Int) := by
  unfold shl
  have e1 : IntKind.bits .u64 = 64 := rfl
  rw [Int.toNat_natCast, e1, Nat.min_eq_left (by omega)]
  have e2 : (m : Int) * 2 ^ n = ((m * 2 ^ n : Nat) : Int) := by push_cast; rfl
  rw [e2]
  exact wrap_u64 _ (by omega) (by omega)

theorem and_low (m n : Nat) (hm : m < 2 ^ 64) (hn : n ≤ 63) : bits .and .u64 (m : Int) (((2 ^ n - 1 : Nat)) : Int) = ((m % 2 ^ n : Nat) : Int) := by
  have h2 : 2 ^ n ≤ 2 ^ 63 := Nat.pow_le_pow_right (by omega) hn
  rw [u64_and_nat m (2 ^ n - 1) (by omega) (by omega), Nat.and_two_pow_sub_one_eq_mod]


theorem digit_val (i : Nat) (h : i < 10) : (UInt8.ofNat (48 + i)).toNat = 48 + i := by
  rw [UInt8.toNat_ofNat']; omega

theorem size_mk (l : List UInt8) : (⟨l.toArray⟩ : ByteArray).size = l.length := rfl
theorem append_mk (l m : List UInt8) : (⟨l.toArray⟩ : ByteArray) ++ ⟨m.toArray⟩ = ⟨(l ++ m).toArray⟩ := by
  rw [ba_append]; simp

theorem and63 (b : Nat) (hb : b < 2 ^ 64) : bits .and .u64 (b : Int) 9223372036854775807 = ((b % 2 ^ 63 : Nat) : Int) := and_low b 63 hb (by omega)
end Go.Proofs.YtoocfodefbechaaGreatDoor.PureReals
