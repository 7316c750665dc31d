/- Words that are made by hand out of a number's digits: their parts. -/
import Derived.Test.YtpknepalceffgaaDoorRefReals
import Derived.Laws.BitsAllLaws
namespace Go.Proofs.YtpknepalceffgaaDoor.RealWords
open Go.RowKit Go.Proofs.YtpknepalceffgaaDoor.Real Go.Proofs.YtpknepalceffgaaDoor.RealPure Go.Proofs.YtpknepalceffgaaDoor.PureReals Go.Proofs.YtpknepalceffgaaDoor.RefReals Go.Proofs.YtpknepalceffgaaDoorW.PrintWords Go.Proofs.YtpknepalceffgaaDoorW.PrintLast Go.Proofs.YtpknepalceffgaaDoorW.PrintMore

theorem shr_i64 (m n : Nat) (hn : n ≤ 64) : shr .i64 (m : Int) (n : Int) = ((m / 2 ^ n : Nat) : Int) := by
  unfold shr
  have e1 : IntKind.bits .i64 = 64 := rfl
  rw [Int.toNat_natCast, e1, Nat.min_eq_left (by omega), Int.natCast_ediv, Int.natCast_pow]
  rfl
theorem shr_u64 (m n : Nat) (hn : n ≤ 64) : shr .u64 (m : Int) (n : Int) = ((m / 2 ^ n : Nat) : Int) := by
  unfold shr
  have e1 : IntKind.bits .u64 = 64 := rfl
  rw [Int.toNat_natCast, e1, Nat.min_eq_left (by omega), Int.natCast_ediv, Int.natCast_pow]
  rfl

theorem or_high (E M : Nat) (hE : E < 2048) (hM : M < 2 ^ 52) : bits .or .u64 ((E * 2 ^ 52 : Nat) : Int) (M : Int) = ((E * 2 ^ 52 + M : Nat) : Int) := by
  rw [u64_or_nat _ _ (by omega) (by omega)]
  congr 1
  have := Nat.shiftLeft_add_eq_or_of_lt hM E
  rw [Nat.shiftLeft_eq] at this
  exact this.symm

/-- The word of exponent E whose digits are K's, K's highest digit standing at T. -/
theorem word_of (K T : Nat) (hT : T ≤ 52) (h1 : 2 ^ T ≤ K) (h2 : K < 2 ^ (T + 1)) (E : Nat) (hE0 : 1 ≤ E) (hE : E < 2047) :
    ∃ M b : Nat, bits .and .u64 (shl .u64 (K : Int) ((52 - T : Nat) : Int)) 4503599627370495 = (M : Int) ∧ bits .or .u64 (IntKind.u64.wrap ((E : Int) * 4503599627370496)) (M : Int) = (b : Int)
      ∧ (E = T + 1023 → kindN b = 3) ∧ (E = T + 1023 → wv b = K) ∧ b < 2 ^ 63 ∧ b / 2 ^ 52 % 2048 = E ∧ mant b = K * 2 ^ (52 - T) := by
  have hp : 2 ^ T * 2 ^ (52 - T) = 2 ^ 52 := (pow52 T (52 - T) (by omega)).symm
  have c1 : 2 ^ 52 ≤ K * 2 ^ (52 - T) := by rw [← hp]; exact Nat.mul_le_mul_right _ h1
  have c2 : K * 2 ^ (52 - T) < 2 ^ 53 := by
    have : 2 ^ (T + 1) * 2 ^ (52 - T) = 2 ^ 53 := by rw [← Nat.pow_add]; congr 1; omega
    rw [← this]; exact Nat.mul_lt_mul_of_pos_right h2 (Nat.two_pow_pos _)
  have hs := shl_pow K (52 - T) (by omega) (by omega)
  have ha := and_low (K * 2 ^ (52 - T)) 52 (by omega) (by omega)
  have hM : K * 2 ^ (52 - T) % 2 ^ 52 = (K - 2 ^ T) * 2 ^ (52 - T) := by
    rw [Nat.mul_sub_right_distrib, hp]; omega
  have hMv : K * 2 ^ (52 - T) % 2 ^ 52 = K * 2 ^ (52 - T) - 2 ^ 52 := by omega
  have hE2 : IntKind.u64.wrap ((E : Int) * 4503599627370496) = ((E * 2 ^ 52 : Nat) : Int) := by
    rw [wrap_u64 _ (by omega) (by omega)]; omega
  refine ⟨_, _, by rw [hs]; exact ha, by rw [hE2]; exact or_high E _ (by omega) (Nat.mod_lt _ (by decide)), ?_⟩
  have m1 : (E * 2 ^ 52 + K * 2 ^ (52 - T) % 2 ^ 52) / 2 ^ 52 % 2048 = E := by omega
  have m2 : (E * 2 ^ 52 + K * 2 ^ (52 - T) % 2 ^ 52) % 2 ^ 52 = K * 2 ^ (52 - T) % 2 ^ 52 := by omega
  have m3 : E * 2 ^ 52 + K * 2 ^ (52 - T) % 2 ^ 52 < 2 ^ 63 := by omega
  have m4 : (E * 2 ^ 52 + K * 2 ^ (52 - T) % 2 ^ 52) % 2 ^ 63 ≠ 0 := by omega
  refine ⟨?_, ?_, m3, m1, ?_⟩
  · intro hEE
    unfold kindN
    rw [m1, m2, if_neg (by omega), if_neg (by omega), hM]
    have e : 1075 - E = 52 - T := by omega
    rw [e, Nat.mul_mod_left, if_pos ⟨by omega, by omega, rfl⟩]
  · intro hEE
    unfold wv
    have e : 1075 - E = 52 - T := by omega
    rw [if_neg m4, m1, m2, e, hMv, Nat.add_sub_cancel' c1, Nat.mul_div_cancel _ (Nat.two_pow_pos _)]
  · unfold mant
    rw [m1, m2, if_neg (by omega), hMv, Nat.sub_add_cancel c1]

theorem and53 (a : Int) : ∃ K : Nat, bits .and .i64 a 9007199254740991 = (K : Int) ∧ K < 2 ^ 53 := by
  have hc : (BitVec.ofInt 64 9007199254740991).toNat = 2 ^ 53 - 1 := by decide
  have key : (BitVec.ofInt 64 a &&& BitVec.ofInt 64 9007199254740991).toNat = (a % ((2 ^ 64 : Nat) : Int)).toNat % 2 ^ 53 := by
    rw [BitVec.toNat_and, BitVec.toNat_ofInt, hc, Nat.and_two_pow_sub_one_eq_mod]
  have hv : bits .and .i64 a 9007199254740991 = ((a % ((2 ^ 64 : Nat) : Int)).toNat % 2 ^ 53 : Nat) := by
    show IntKind.i64.wrap ((BitVec.ofInt 64 a &&& BitVec.ofInt 64 9007199254740991).toNat : Nat) = _
    rw [key, IntKind.wrap_i64]
    omega
  exact ⟨_, hv, Nat.mod_lt _ (by decide)⟩

/-- The word of the other sign. -/
theorem flip_of (b : Nat) (hb : b < 2 ^ 63) : ∃ c : Nat, c < 2 ^ 64 ∧ bits .or .u64 (b : Int) 9223372036854775808 = (c : Int) ∧ kindN c = kindN b ∧ wholeI c = -(wv b : Int) ∧ wholeI b = (wv b : Int) ∧ (kindN b ≠ 0 → textL c = 45 :: textL b) := by
  have hor := or63 b (by omega)
  rw [Nat.mod_eq_of_lt hb] at hor
  obtain ⟨s1, s2⟩ := whole_sign b hb
  exact ⟨b + 2 ^ 63, by omega, hor, (kind_sign b).1, s2, s1, fun h => (text_sign b hb h).1⟩

theorem val_unique (m n c q r : Nat) (h1 : m = 2 ^ n * (2 * q + 1)) (h2 : m = 2 ^ c * (2 * r + 1)) : n = c := by
  have a := (two_dvd_pow m c n r h2).1 (by rw [h1]; exact Nat.mul_mod_right _ _)
  have b := (two_dvd_pow m n c q h1).1 (by rw [h2]; exact Nat.mul_mod_right _ _)
  omega

/-- The word whose odd part and power are given: of the kind 'other'. -/
theorem other_of (q T P : Nat) (hT : T ≤ 52) (h1 : 2 ^ T ≤ 2 * q + 1) (h2 : 2 * q + 1 < 2 ^ (T + 1)) (E : Nat) (hE0 : 1 ≤ E) (hE : E < 2047) (hP : 1 ≤ P) (hPE : E + P = T + 1023) :
    ∃ M b : Nat, bits .and .u64 (shl .u64 ((2 * q + 1 : Nat) : Int) ((52 - T : Nat) : Int)) 4503599627370495 = (M : Int) ∧ bits .or .u64 (IntKind.u64.wrap ((E : Int) * 4503599627370496)) (M : Int) = (b : Int)
      ∧ b < 2 ^ 63 ∧ kindN b = 4 ∧ textL b = Lib.decDigits (2 * q + 1) ++ [112] ++ 45 :: Lib.decDigits P := by
  obtain ⟨M, b, e1, e2, -, -, hb, hEb, hm⟩ := word_of (2 * q + 1) T hT h1 h2 E hE0 hE
  refine ⟨M, b, e1, e2, hb, ?_⟩
  have hm0 : mant b ≠ 0 := by
    rw [hm]
    have := Nat.mul_pos (show 0 < 2 * q + 1 by omega) (Nat.two_pow_pos (52 - T))
    omega
  have hlt := mant_lt b
  obtain ⟨r, c1, c2, c3⟩ := ctz_parts (mant b) hm0 (by omega)
  have hc : Lib.ctz 64 (mant b) = 52 - T := by
    have hm' : mant b = 2 ^ (52 - T) * (2 * q + 1) := by rw [hm, Nat.mul_comm]
    exact (val_unique (mant b) (52 - T) _ q r hm' c1).symm
  have ho : oddN b = 2 * q + 1 := by
    unfold oddN
    rw [hc, hm, Nat.mul_div_cancel _ (Nat.two_pow_pos _)]
  have hp : powI b = -(P : Int) := by
    unfold powI expo
    rw [hc, hEb, if_neg (by omega)]
    omega
  have ht := real_test b (by omega) hm0
  have hk3 : kindN b ≠ 3 := fun h => by
    have := (ht.2 h).1
    rw [hp] at this; omega
  have hk : kindN b = 4 := by
    have hz : ¬ (b / 2 ^ 52 % 2048 = 0 ∧ b % 2 ^ 52 = 0) := fun h => by omega
    unfold kindN at hk3 ⊢
    rw [if_neg (by omega), if_neg hz] at hk3 ⊢
    split at hk3
    · exact absurd rfl hk3
    · rename_i h9; rw [if_neg h9]
  refine ⟨hk, ?_⟩
  have hs := (sign_pos b hb).1
  unfold textL
  rw [hk, hs, ho, hp, Lib.itoa_neg P hP]
  rfl

theorem or_one (x : Nat) (hx : x < 2 ^ 52) : ∃ q, bits .or .u64 (x : Int) 1 = ((2 * q + 1 : Nat) : Int) ∧ 2 * q + 1 < 2 ^ 52 := by
  have hm : (x ||| 1) % 2 = 1 := by rw [Nat.or_mod_two_eq_one]; exact .inr rfl
  have hlt : x ||| 1 < 2 ^ 52 := Nat.or_lt_two_pow hx (by decide)
  refine ⟨(x ||| 1) / 2, ?_, by omega⟩
  rw [show (1 : Int) = ((1 : Nat) : Int) from rfl, u64_or_nat x 1 (by omega) (by decide)]
  congr 1; omega

theorem and9 (a : Int) : ∃ K : Nat, bits .and .i64 a 511 = (K : Int) ∧ K < 512 := by
  have hc : (BitVec.ofInt 64 511).toNat = 2 ^ 9 - 1 := by decide
  have key : (BitVec.ofInt 64 a &&& BitVec.ofInt 64 511).toNat = (a % ((2 ^ 64 : Nat) : Int)).toNat % 2 ^ 9 := by
    rw [BitVec.toNat_and, BitVec.toNat_ofInt, hc, Nat.and_two_pow_sub_one_eq_mod]
  have hv : bits .and .i64 a 511 = ((a % ((2 ^ 64 : Nat) : Int)).toNat % 2 ^ 9 : Nat) := by
    show IntKind.i64.wrap ((BitVec.ofInt 64 a &&& BitVec.ofInt 64 511).toNat : Nat) = _
    rw [key, IntKind.wrap_i64]
    omega
  exact ⟨_, hv, Nat.mod_lt _ (by decide)⟩

/-! ### the parts of a word's place, as the laws' loops spell them -/
theorem low_wrap (T : Nat) (hT : T ≤ 52) : IntKind.u64.wrap (wrap64 (52 - (T : Int))) = ((52 - T : Nat) : Int) := by
  have e : wrap64 (52 - (T : Int)) = ((52 - T : Nat) : Int) := by unfold wrap64; omega
  rw [e, wrap_u64 _ (by omega) (by omega)]
theorem nat_wrap (K : Nat) (hK : K < 2 ^ 53) : IntKind.u64.wrap (K : Int) = (K : Int) := wrap_u64 _ (by omega) (by omega)
theorem nat_nonneg (n : Nat) : 0 ≤ (n : Int) := by omega
theorem top_set (K T : Nat) (h1 : 2 ^ T ≤ K) : ¬ ((K / 2 ^ T : Nat) : Int) = 0 := by
  have := Nat.div_pos h1 (Nat.two_pow_pos T); omega
end Go.Proofs.YtpknepalceffgaaDoor.RealWords
