/- What is true: the law ValueTruths, over numbers and texts alone. -/
import Derived.Test.YtepolmajebdphaaDoorQ6
import Derived.Test.YtepolmajebdphaaDoorPureWordsT
namespace Go.Proofs.YtepolmajebdphaaDoor.Pure
set_option linter.unusedSimpArgs false
set_option linter.unusedVariables false
open Go.RowKit Go.Proofs.YtepolmajebdphaaDoor.Q Go.Proofs.YtepolmajebdphaaDoor.Real Go.Proofs.YtepolmajebdphaaDoor.RealPure Go.Proofs.YtepolmajebdphaaDoor.PureReals Go.Proofs.YtepolmajebdphaaDoor.PureT Go.Proofs.YtepolmajebdphaaDoor.Values Go.Proofs.YtepolmajebdphaaDoorW.PrintWords Go.Proofs.YtepolmajebdphaaDoorW.PrintLast Go.Proofs.YtepolmajebdphaaDoorW.PrintMore

theorem true_of (x : V) (h2 : x.f2 = 0) : value_True.f x.f0 x.f1 x.f2 x.f3 x.f4 x.f5 = some (mayB x && truthB x) := by
  unfold value_True.f
  rw [if_pos (by rw [h2]; decide)]
  rfl
theorem true_num (a : Int) (h0 : -9007199254740991 ≤ a) (h1 : a ≤ 9007199254740991) : value_True.f 2 a 0 ⟨#[]⟩ [] [] = some (a != 0) := by
  refine (true_of (nV a) rfl).trans ?_
  rw [may_num a h0 h1]
  rfl
theorem true_text (s : ByteArray) (h : s.size ≤ 65536) : value_True.f 4 0 0 s [] [] = some (s.toList != []) := by
  refine (true_of (tV s) rfl).trans ?_
  rw [may_text s, decide_eq_true h]
  congr 1
  show (true && (s.toList != [] || decide (0 < 0))) = _
  cases (s.toList != []) <;> rfl
theorem true0 : value_True.f 0 0 0 ⟨#[]⟩ [] [] = some false := by kernel_rfl
theorem true5 : value_True.f 5 0 0 ⟨#[]⟩ [] [] = some false := by kernel_rfl
theorem true6 : value_True.f 6 0 0 ⟨#[]⟩ [] [] = some false := by kernel_rfl
theorem true1 : value_True.f 1 0 0 ⟨#[]⟩ [] [] = some false := by kernel_rfl
theorem true11 : value_True.f 1 1 0 ⟨#[]⟩ [] [] = some true := by kernel_rfl
theorem trueL : value_True.f 5 0 0 ⟨#[]⟩ [⟨0, 0, 0, ⟨#[]⟩, [], []⟩] [] = some true := by kernel_rfl
theorem trueR : value_True.f 6 0 0 ⟨#[]⟩ [⟨0, 0, 0, ⟨#[]⟩, [], []⟩] [⟨#[107]⟩] = some true := by kernel_rfl
theorem j0_tr (k : Nat) (s : ByteArray) (b x : Int) : stolelaw4_ValueTruths.j0 (k + 1) s b x false 5 0 0 ⟨#[]⟩ 6 0 0 ⟨#[]⟩ = stolelaw4_ValueTruths.j1 k s b x false true := by
  rw [stolelaw4_ValueTruths.j0, bindS _ _ _ trueL, if_pos rfl, bindS _ _ _ trueR, if_pos rfl, bindS _ _ _ true11]
theorem j2_tr (k : Nat) (s : ByteArray) (b : Nat) (hb : b < 2 ^ 64) (x : Nat) (hx : x < 2 ^ 53) (z : Bool) (hz : (kindN b != 2 && kindN b != 0) = !z) : stolelaw4_ValueTruths.j2 (k + 1) s (b : Int) (x : Int) false true z = some true := by
  rw [stolelaw4_ValueTruths.j2, if_neg (by decide), if_pos rfl]
  rw [bindS _ _ _ (num4_eq _), bindS _ _ _ (true_num (x : Int) (by omega) (by omega)), if_pos (beq_self_eq_true _)]
  have e : ((-(x : Int)) != 0) = ((x : Int) != 0) := by
    by_cases c : x = 0
    · subst c; rfl
    · rw [bne_iff_ne.2 (by omega : -(x : Int) ≠ 0), bne_iff_ne.2 (by omega : (x : Int) ≠ 0)]
  rw [neg_small x hx, bindS _ _ _ (num4_eq _), bindS _ _ _ (true_num (-(x : Int)) (by omega) (by omega)), e, if_pos (beq_self_eq_true _)]
  by_cases c1 : s.size ≤ 65536
  · rw [if_neg (by omega), bindS _ _ _ (text4_eq _), bindS _ _ _ (true_text s c1), if_pos (beq_self_eq_true _), bindS _ _ _ (bits_eq _), bindS _ _ _ (true_f b hb), hz, beq_self_eq_true]
  · rw [if_pos (by omega), bindS _ _ _ (bits_eq _), bindS _ _ _ (true_f b hb), hz, beq_self_eq_true]
theorem j1_tr (k : Nat) (s : ByteArray) (b : Nat) (hb : b < 2 ^ 64) (x : Nat) (hx : x < 2 ^ 53) : stolelaw4_ValueTruths.j1 (k + 2) s (b : Int) (x : Int) false true = some true := by
  rw [stolelaw4_ValueTruths.j1]
  have e1 : IntKind.u64.wrap ((b : Int) * 2) = ((b * 2 % 2 ^ 64 : Nat) : Int) := by
    show ((b : Int) * 2) % 18446744073709551616 = _
    omega
  have e2 : bits .and .u64 ((b : Int) / 4503599627370496) 2047 = ((b / 2 ^ 52 % 2 ^ 11 : Nat) : Int) := by
    have h := and_low (b / 2 ^ 52) 11 (by omega) (by omega)
    exact h
  have e3 : bits .and .u64 (b : Int) 4503599627370495 = ((b % 2 ^ 52 : Nat) : Int) := and_low b 52 hb (by omega)
  rw [e1, e2, e3]
  have kc := kind_cases b
  have n1 := kind_nan b
  have hn : nanB b = decide (0x7ff0000000000000 < b % 2 ^ 63) := rfl
  by_cases c1 : b * 2 % 2 ^ 64 = 0
  · have h0 : b % 2 ^ 63 = 0 := by omega
    have nf : nanB b = false := by rw [hn, h0]; rfl
    have k2 := (kind_zero b nf).2 h0
    rw [if_pos (by omega)]
    exact j2_tr k s b hb x hx true (by rw [k2]; rfl)
  · have h0 : b % 2 ^ 63 ≠ 0 := by omega
    rw [if_neg (by omega)]
    by_cases c2 : b / 2 ^ 52 % 2 ^ 11 = 2047
    · rw [if_pos (by omega)]
      by_cases c3 : b % 2 ^ 52 = 0
      · have nf : nanB b = false := by rw [hn]; exact decide_eq_false (by omega)
        have hk0 : kindN b ≠ 0 := fun h => by rw [n1.1 h] at nf; cases nf
        have hk2 : kindN b ≠ 2 := fun h => h0 ((kind_zero b nf).1 h)
        have e4 : ((((b % 2 ^ 52 : Nat) : Int)) != 0) = false := by rw [c3]; rfl
        rw [e4]
        exact j2_tr k s b hb x hx false (by rw [bne_iff_ne.2 hk0, bne_iff_ne.2 hk2]; rfl)
      · have nt : nanB b = true := by rw [hn]; exact decide_eq_true (by omega)
        have e4 : ((((b % 2 ^ 52 : Nat) : Int)) != 0) = true := bne_iff_ne.2 (by omega)
        rw [e4]
        exact j2_tr k s b hb x hx true (by rw [n1.2 nt]; rfl)
    · rw [if_neg (by omega)]
      have nf : nanB b = false := by rw [hn]; exact decide_eq_false (by omega)
      have hk0 : kindN b ≠ 0 := fun h => by rw [n1.1 h] at nf; cases nf
      have hk2 : kindN b ≠ 2 := fun h => h0 ((kind_zero b nf).1 h)
      exact j2_tr k s b hb x hx false (by rw [bne_iff_ne.2 hk0, bne_iff_ne.2 hk2]; rfl)
theorem ValueTruths : stolelaw4_ValueTruths.Pure := by
  intro a0 s a2 w0 w1 w2
  obtain ⟨x, ex, hx⟩ := and53 a0
  obtain ⟨b, rfl, hb⟩ := wf_u64 w2
  refine ⟨3, ?_⟩
  unfold stolelaw4_ValueTruths.f
  rw [bindS _ _ _ (show stolelaw4_awake.f = some true from rfl), if_pos rfl, ex]
  rw [bindS _ _ _ true0, if_neg (by decide), bindS _ _ _ true5, if_neg (by decide), bindS _ _ _ true6, if_neg (by decide), bindS _ _ _ true1, j0_tr]
  exact j1_tr 0 s b hb x hx
end Go.Proofs.YtepolmajebdphaaDoor.Pure
