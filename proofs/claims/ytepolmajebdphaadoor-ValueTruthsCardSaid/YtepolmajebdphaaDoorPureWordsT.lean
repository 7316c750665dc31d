/- Words of one kind or another, and whether they are true: what the law ValueTruths wants. -/
import Derived.Test.YtepolmajebdphaaDoorQN
import Derived.Test.YtepolmajebdphaaDoorRealLemmas
import Derived.Test.YtepolmajebdphaaDoorValues
namespace Go.Proofs.YtepolmajebdphaaDoor.PureT
set_option linter.unusedSimpArgs false
set_option linter.unusedVariables false
open Go.RowKit Go.Proofs.YtepolmajebdphaaDoor.Q Go.Proofs.YtepolmajebdphaaDoor.Real Go.Proofs.YtepolmajebdphaaDoor.RealPure Go.Proofs.YtepolmajebdphaaDoor.PureReals Go.Proofs.YtepolmajebdphaaDoor.Values Go.Proofs.YtepolmajebdphaaDoorW.PrintWords Go.Proofs.YtepolmajebdphaaDoorW.PrintLast Go.Proofs.YtepolmajebdphaaDoorW.PrintMore

def bV (a : Int) : V := ⟨3, 0, a, ⟨#[]⟩, [], []⟩
theorem may_bits (a : Int) : mayB (bV a) = true := by kernel_rfl
theorem kind_nan (b : Nat) : kindN b = 0 ↔ nanB b = true := by
  rw [kind_cases]
  cases h : nanB b <;> simp
  repeat' split
  all_goals omega
theorem kind_zero (b : Nat) (h : nanB b = false) : kindN b = 2 ↔ b % 2 ^ 63 = 0 := by
  rw [kind_cases, h]
  simp only [Bool.false_eq_true, if_false]
  repeat' split
  all_goals omega
theorem truth_bits (a : Int) : truthB (bV a) = (kindN a.toNat != 2 && kindN a.toNat != 0) := by
  unfold truthB
  simp only [bV]
  simp
theorem true_f (a : Nat) (ha : a < 2 ^ 64) : value_True.f 3 0 (a : Int) ⟨#[]⟩ [] [] = some (kindN a != 2 && kindN a != 0) := by
  unfold value_True.f
  rw [if_pos ⟨by omega, by omega⟩]
  have h1 := may_bits (a : Int)
  have h2 := truth_bits (a : Int)
  unfold bV at h1 h2
  rw [h1, h2, Int.toNat_natCast, Bool.true_and]
theorem bindS {α β : Type} (x : α) (f : α → Option β) (y : Option α) (h : y = some x) : y.bind f = f x := by subst h; exact Option.bind_some ..
theorem bits_eq (x : Int) : stolelaw4_bits.f x = some (3, 0, x, ⟨#[]⟩, [], []) := rfl
def nV (a : Int) : V := ⟨2, a, 0, ⟨#[]⟩, [], []⟩
def tV (s : ByteArray) : V := ⟨4, 0, 0, s, [], []⟩
theorem own_num (a : Int) : ownB (nV a) = intB a := by
  have h : plainB (nV a) = true := by kernel_rfl
  unfold ownB
  rw [h]
  simp [nV]
theorem own_text (s : ByteArray) : ownB (tV s) = decide (s.size ≤ 65536) := by
  have h : plainB (tV s) = true := by kernel_rfl
  unfold ownB
  rw [h]
  simp [tV]
  exact decide_eq_decide.2 Iff.rfl
theorem may_of_own (x : V) (h4 : x.f4 = []) : mayB x = ownB x := by
  unfold mayB
  rw [mayD, if_neg (by decide), h4]
  cases ownB x <;> rfl
theorem may_num (a : Int) (h0 : -9007199254740991 ≤ a) (h1 : a ≤ 9007199254740991) : mayB (nV a) = true := by
  rw [may_of_own _ rfl, own_num]
  unfold intB
  rw [decide_eq_true h0, decide_eq_true h1]; rfl
theorem may_text (s : ByteArray) : mayB (tV s) = decide (s.size ≤ 65536) := by rw [may_of_own _ rfl, own_text]
theorem num4_eq (x : Int) : stolelaw4_num.f x = some (2, x, 0, ⟨#[]⟩, [], []) := rfl
theorem text4_eq (s : ByteArray) : stolelaw4_text.f s = some (4, 0, 0, s, [], []) := rfl
theorem and53 (a : Int) : ∃ K : Nat, bits .and .i64 a 9007199254740991 = (K : Int) ∧ K < 2 ^ 53 := by
  have hc : (BitVec.ofInt 64 9007199254740991).toNat = 2 ^ 53 - 1 := by decide
  have key : (BitVec.ofInt 64 a &&& BitVec.ofInt 64 9007199254740991).toNat = (a % ((2 ^ 64 : Nat) : Int)).toNat % 2 ^ 53 := by
    rw [BitVec.toNat_and, BitVec.toNat_ofInt, hc, Nat.and_two_pow_sub_one_eq_mod]
  have hv : bits .and .i64 a 9007199254740991 = ((a % ((2 ^ 64 : Nat) : Int)).toNat % 2 ^ 53 : Nat) := by
    show IntKind.i64.wrap ((BitVec.ofInt 64 a &&& BitVec.ofInt 64 9007199254740991).toNat : Nat) = _
    rw [key, IntKind.wrap_i64]
    omega
  exact ⟨_, hv, Nat.mod_lt _ (by decide)⟩
theorem neg_small (y : Nat) (hy : y < 2 ^ 53) : wrap64 (-(y : Int)) = -(y : Int) := by unfold wrap64; omega
end Go.Proofs.YtepolmajebdphaaDoor.PureT
