/- Numbers of arguments: the law CallForms, over numbers alone: each of its sixty-four cases is reckoned. -/
import Derived.Test.YtepolmajebdphaaDoorC4
namespace Go.Proofs.YtepolmajebdphaaDoor.Pure
set_option linter.unusedSimpArgs false
set_option linter.unusedVariables false
open Go.RowKit Go.Proofs.YtepolmajebdphaaDoor.Q Go.Proofs.YtepolmajebdphaaDoor.Real Go.Proofs.YtepolmajebdphaaDoor.RealPure Go.Proofs.YtepolmajebdphaaDoor.Values Go.Proofs.YtepolmajebdphaaDoor.Fns Go.Proofs.YtepolmajebdphaaDoorW.PrintWords Go.Proofs.YtepolmajebdphaaDoorW.PrintLast Go.Proofs.YtepolmajebdphaaDoorW.PrintMore

theorem bindC {α β : Type} (x : α) (f : α → Option β) (y : Option α) (h : y = some x) : y.bind f = f x := by subst h; exact Option.bind_some ..
abbrev formsL (k m : Int) : Option Bool := stolelaw18_CallForms.l0 20 (([(⟨#[108, 101, 110]⟩ : ByteArray), (⟨#[105, 110, 100, 101, 120]⟩ : ByteArray), (⟨#[101, 113]⟩ : ByteArray), (⟨#[108, 116]⟩ : ByteArray), (⟨#[110, 111, 116]⟩ : ByteArray), (⟨#[97, 110, 100]⟩ : ByteArray), (⟨#[111, 114]⟩ : ByteArray), (⟨#[99, 97, 116]⟩ : ByteArray)] : List ByteArray)) k (([1, 2, 2, 2, 1, 1, 1, 0] : List Int)) (([1, 2, 2, 2, 1, 99, 99, 99] : List Int)) m ([] : List (S26)) 0
theorem forms64 : ((List.range 8).all fun k => (List.range 8).all fun m => formsL (k : Int) (m : Int) == some true) = true := by kernel_rfl
theorem forms_of (k m : Nat) (hk : k < 8) (hm : m < 8) : formsL (k : Int) (m : Int) = some true := by
  have h1 := List.all_eq_true.1 forms64 k (List.mem_range.2 hk)
  have h2 := List.all_eq_true.1 h1 m (List.mem_range.2 hm)
  exact eq_of_beq h2
theorem and7 (a : Int) : ∃ K : Nat, bits .and .i64 a 7 = (K : Int) ∧ K < 8 := by
  have hc : (BitVec.ofInt 64 7).toNat = 2 ^ 3 - 1 := by decide
  have key : (BitVec.ofInt 64 a &&& BitVec.ofInt 64 7).toNat = (a % ((2 ^ 64 : Nat) : Int)).toNat % 2 ^ 3 := by
    rw [BitVec.toNat_and, BitVec.toNat_ofInt, hc, Nat.and_two_pow_sub_one_eq_mod]
  have hv : bits .and .i64 a 7 = ((a % ((2 ^ 64 : Nat) : Int)).toNat % 2 ^ 3 : Nat) := by
    show IntKind.i64.wrap ((BitVec.ofInt 64 a &&& BitVec.ofInt 64 7).toNat : Nat) = _
    rw [key, IntKind.wrap_i64]
    omega
  exact ⟨_, hv, Nat.mod_lt _ (by decide)⟩
theorem tmod8 (a : Int) : ∃ K : Nat, wrap64 (Int.tmod (IntKind.u64.wrap a) 8) = (K : Int) ∧ K < 8 := by
  have e : IntKind.u64.wrap a = a % 18446744073709551616 := rfl
  have h0 : 0 ≤ a % 18446744073709551616 := by omega
  obtain ⟨n, hn⟩ := Int.eq_ofNat_of_zero_le h0
  refine ⟨n % 8, ?_, Nat.mod_lt _ (by decide)⟩
  rw [e, hn]
  have e2 : Int.tmod (n : Int) 8 = ((n % 8 : Nat) : Int) := rfl
  rw [e2]
  exact Values.wrap_small _ (by omega) (by omega)
theorem CallForms : stolelaw18_CallForms.Pure := by
  intro a0 a1 w0 w1
  obtain ⟨k, ek, hk⟩ := tmod8 a0
  obtain ⟨m, em, hm⟩ := and7 a1
  refine ⟨20, ?_⟩
  unfold stolelaw18_CallForms.f
  rw [bindC _ _ _ (show stolelaw18_awake.f = some true from rfl), if_pos rfl, ek, em]
  exact forms_of k m hk hm
end Go.Proofs.YtepolmajebdphaaDoor.Pure
