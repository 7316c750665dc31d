/- Plain lemmas on the printed functions of the real laws: shifts, masks, the constants' sentence. -/
import Derived.Test.YtepolmajebdphaaDoorRR
import Derived.Test.YtepolmajebdphaaDoorRealText
import Derived.Lib.Strings
import Derived.Lib.ItoaLen
namespace Go.Proofs.YtepolmajebdphaaDoor.PureReals
open Go.RowKit Go.Proofs.YtepolmajebdphaaDoor.Q Go.Proofs.YtepolmajebdphaaDoor.Real Go.Proofs.YtepolmajebdphaaDoor.RealPure Go.Proofs.YtepolmajebdphaaDoorW.PrintWords Go.Proofs.YtepolmajebdphaaDoorW.PrintLast Go.Proofs.YtepolmajebdphaaDoorW.PrintMore


theorem wf_u64 {a : Int} (h : (Lit.int .u64 a).wf = true) : ∃ b : Nat, a = b ∧ b < 2 ^ 64 := by
  have h' : 0 ≤ a ∧ a ≤ 18446744073709551615 := by simpa [Lit.wf, IntKind.min, IntKind.max, IntKind.signed, IntKind.bits] using h
  exact ⟨a.toNat, by omega, by omega⟩
theorem wf_i64 {a : Int} (h : (Lit.int .i64 a).wf = true) : -9223372036854775808 ≤ a ∧ a ≤ 9223372036854775807 := by
  simpa [Lit.wf, IntKind.min, IntKind.max, IntKind.signed, IntKind.bits] using h

theorem kind_f (b : Nat) (hb : b < 2 ^ 64) : real_Kind.f (b : Int) = some (kindN b) := by
  unfold real_Kind.f; rw [if_pos ⟨by omega, by omega⟩, Int.toNat_natCast]
theorem text_f (b : Nat) (hb : b < 2 ^ 64) : real_Text.f (b : Int) = some ⟨(textL b).toArray⟩ := by
  unfold real_Text.f; rw [if_pos ⟨by omega, by omega⟩, Int.toNat_natCast]

theorem wrap_u64 (x : Int) (h0 : 0 ≤ x) (h1 : x < 18446744073709551616) : IntKind.u64.wrap x = x := by
  rw [IntKind.wrap_u64]; omega

theorem shl_pow (m n : Nat) (hn : n ≤ 63) (h : m * 2 ^ n < 2 ^ 64) : shl .u64 (m : Int) (n : Int) = ((m * 2 ^ n : Nat) : Int) := by
  unfold shl
  have e1 : IntKind.bits .u64 = 64 := rfl
  rw [Int.toNat_natCast, e1, Nat.min_eq_left (by omega)]
  have e2 : (m : Int) * 2 ^ n = ((m * 2 ^ n : Nat) : Int) := by push_cast; rfl
  rw [e2]
  exact wrap_u64 _ (by omega) (by omega)

theorem and_low (m n : Nat) (hm : m < 2 ^ 64) (hn : n ≤ 63) : bits .and .u64 (m : Int) (((2 ^ n - 1 : Nat)) : Int) = ((m % 2 ^ n : Nat) : Int) := by
  have h2 : 2 ^ n ≤ 2 ^ 63 := Nat.pow_le_pow_right (by omega) hn
  rw [u64_and_nat m (2 ^ n - 1) (by omega) (by omega), Nat.and_two_pow_sub_one_eq_mod]


theorem digit_val (i : Nat) (h : i < 10) : (UInt8.ofNat (48 + i)).toNat = 48 + i := by
  rw [UInt8.toNat_ofNat']; omega

theorem dec_head (u : Nat) : ∃ (c : UInt8) (l : List UInt8), Lib.decDigits u = c :: l ∧ 48 ≤ c.toNat ∧ c.toNat ≤ 57 := by
  induction u using Nat.strongRecOn with
  | _ u ih =>
    by_cases h : u < 10
    · exact ⟨_, _, Lib.decDigits_one h, by rw [digit_val u h]; omega, by rw [digit_val u h]; omega⟩
    · obtain ⟨c, l, e, h1, h2⟩ := ih (u / 10) (by omega)
      exact ⟨c, l ++ [UInt8.ofNat (48 + u % 10)], by rw [Lib.decDigits, dif_neg h, e]; rfl, h1, h2⟩

theorem kind_sign (b : Nat) : kindN (b + 2 ^ 63) = kindN b ∧ wv (b + 2 ^ 63) = wv b ∧ oddN (b + 2 ^ 63) = oddN b ∧ powI (b + 2 ^ 63) = powI b := by
  have e1 : (b + 2 ^ 63) / 2 ^ 52 % 2048 = b / 2 ^ 52 % 2048 := by omega
  have e2 : (b + 2 ^ 63) % 2 ^ 52 = b % 2 ^ 52 := by omega
  have e3 : (b + 2 ^ 63) % 2 ^ 63 = b % 2 ^ 63 := by omega
  have hm : mant (b + 2 ^ 63) = mant b := by unfold mant; rw [e1, e2]
  refine ⟨?_, ?_, ?_, ?_⟩
  · unfold kindN; rw [e1, e2]
  · unfold wv; rw [e1, e2, e3]
  · unfold oddN; rw [hm]
  · unfold powI expo; rw [hm, e1]

theorem sign_pos (b : Nat) (hb : b < 2 ^ 63) : signL b = [] ∧ signL (b + 2 ^ 63) = [45] := by
  unfold signL
  rw [if_neg (by omega), if_pos (by omega)]
  exact ⟨rfl, rfl⟩

theorem whole_sign (b : Nat) (hb : b < 2 ^ 63) : wholeI b = wv b ∧ wholeI (b + 2 ^ 63) = -(wv b : Int) := by
  unfold wholeI
  rw [if_neg (by omega), if_pos (by omega), (kind_sign b).2.1]
  exact ⟨rfl, rfl⟩

theorem wv_pos (b : Nat) (hk : kindN b = 3) : 1 ≤ wv b := by
  have h63 := mod63 b
  unfold kindN at hk
  split at hk
  · split at hk <;> omega
  · rename_i h1
    split at hk
    · omega
    · rename_i h2
      split at hk
      · rename_i h3
        obtain ⟨h3, h4, h5⟩ := h3
        unfold wv
        rw [if_neg (by omega)]
        generalize b / 2 ^ 52 % 2048 = E at *
        generalize b % 2 ^ 52 = M at *
        have hp : 2 ^ (1075 - E) ≤ 2 ^ 52 := Nat.pow_le_pow_right (by omega) (by omega)
        exact (Nat.one_le_div_iff (Nat.two_pow_pos _)).2 (by omega)
      · omega

theorem text_sign (b : Nat) (hb : b < 2 ^ 63) (hk : kindN b ≠ 0) : textL (b + 2 ^ 63) = 45 :: textL b ∧ ∃ c l, textL b = c :: l ∧ c ≠ 45 := by
  obtain ⟨k1, k2, k3, k4⟩ := kind_sign b
  obtain ⟨s1, s2⟩ := sign_pos b hb
  obtain ⟨w1, w2⟩ := whole_sign b hb
  unfold textL
  rw [k1, k3, k4, s1, s2, w1, w2]
  rcases kind_range b with h | h | h | h | h
  · exact absurd h hk
  · rw [h]
    exact ⟨rfl, 73, _, rfl, by decide⟩
  · rw [h]
    exact ⟨rfl, 48, _, rfl, by decide⟩
  · have hp := wv_pos b h
    rw [h]
    have e0 : ¬ (3 : Int) = 0 := by decide
    have e1 : ¬ (3 : Int) = 1 := by decide
    have e2 : ¬ (3 : Int) = 2 := by decide
    rw [if_neg e0, if_neg e1, if_neg e2, if_pos rfl, if_neg e0, if_neg e1, if_neg e2, if_pos rfl, Lib.itoa_neg _ hp, Lib.itoa_nonneg]
    obtain ⟨c, l, e, h1, h2⟩ := dec_head (wv b)
    exact ⟨rfl, c, l, e, fun h => by subst h; revert h1; decide⟩
  · rw [h]
    have e0 : ¬ (4 : Int) = 0 := by decide
    have e1 : ¬ (4 : Int) = 1 := by decide
    have e2 : ¬ (4 : Int) = 2 := by decide
    have e3 : ¬ (4 : Int) = 3 := by decide
    rw [if_neg e0, if_neg e1, if_neg e2, if_neg e3, if_neg e0, if_neg e1, if_neg e2, if_neg e3]
    obtain ⟨c, l, e, h1, h2⟩ := dec_head (oddN b)
    rw [e]
    exact ⟨rfl, c, _, rfl, fun h => by subst h; revert h1; decide⟩

theorem text_nan (b : Nat) (hk : kindN b = 0) : textL b = [78, 97, 78] := by
  unfold textL; rw [hk]; rfl

theorem toList_mk (l : List UInt8) : (⟨l.toArray⟩ : ByteArray).toList = l := by
  rw [Lib.toList_data]
theorem size_mk (l : List UInt8) : (⟨l.toArray⟩ : ByteArray).size = l.length := rfl
theorem append_mk (l m : List UInt8) : (⟨l.toArray⟩ : ByteArray) ++ ⟨m.toArray⟩ = ⟨(l ++ m).toArray⟩ := by
  rw [ba_append]; simp

theorem text_length (b : Nat) : (textL b).length ≤ 100 := by
  have ds : ∀ u, u < 2 ^ 64 → (Lib.decDigits u).length ≤ 20 := by
    intro u hu
    rw [Lib.decDigits_length]
    by_cases h1 : 1 ≤ u
    · have := Lib.numDigits_eq u h1 (by omega); split at this <;> omega
    · have : u = 0 := by omega
      subst this; decide +kernel
  have sl : (signL b).length ≤ 1 := by unfold signL; split <;> simp
  obtain ⟨p0, p1, o1⟩ := powI_range b
  unfold textL
  split
  · decide
  · split
    · rw [List.length_append]; simp; omega
    · split
      · rw [List.length_append]; simp; omega
      · split
        · rename_i hk
          obtain ⟨r0, r1⟩ := wholeI_range b (.inl hk)
          have := Lib.itoa_length_le (wholeI b) r0 r1; omega
        · have h1 := ds (oddN b) (by omega)
          have h2 := Lib.itoa_length_le (powI b) (by omega) (by omega)
          simp only [List.length_append, List.length_cons, List.length_nil]; omega

theorem or63 (b : Nat) (hb : b < 2 ^ 64) : bits .or .u64 (b : Int) 9223372036854775808 = ((b % 2 ^ 63 + 2 ^ 63 : Nat) : Int) := by
  rw [show (9223372036854775808 : Int) = ((9223372036854775808 : Nat) : Int) from rfl, u64_or_nat b 9223372036854775808 hb (by decide)]
  congr 1
  rw [show 9223372036854775808 = 2 ^ 63 from rfl]
  by_cases h : b < 2 ^ 63
  · rw [Nat.or_two_pow_eq_add_of_lt h]; omega
  · obtain ⟨c, rfl, hc⟩ : ∃ c, b = c + 2 ^ 63 ∧ c < 2 ^ 63 := ⟨b - 2 ^ 63, by omega, by omega⟩
    rw [← Nat.or_two_pow_eq_add_of_lt hc, Nat.or_assoc, Nat.or_self, Nat.or_two_pow_eq_add_of_lt hc]; omega

theorem and63 (b : Nat) (hb : b < 2 ^ 64) : bits .and .u64 (b : Int) 9223372036854775807 = ((b % 2 ^ 63 : Nat) : Int) := and_low b 63 hb (by omega)
end Go.Proofs.YtepolmajebdphaaDoor.PureReals
