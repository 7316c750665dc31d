/- What the reference's functions Split and Real answer (the first part of XRefReals). -/
import Derived.Test.YtoocfodefbechaaGreatDoorRealLemmas
namespace Go.Proofs.YtoocfodefbechaaGreatDoor.RefReals
open Go.RowKit Go.Proofs.YtoocfodefbechaaGreatDoor.Q Go.Proofs.YtoocfodefbechaaGreatDoor.Real Go.Proofs.YtoocfodefbechaaGreatDoor.RealPure Go.Proofs.YtoocfodefbechaaGreatDoor.PureReals Go.Proofs.YtoocfodefbechaaGreatDoorW.PrintWords Go.Proofs.YtoocfodefbechaaGreatDoorW.PrintLast Go.Proofs.YtoocfodefbechaaGreatDoorW.PrintMore

/-! ### Split -/
theorem and_one (m : Nat) (hm : m < 2 ^ 64) : bits .and .u64 (m : Int) 1 = ((m % 2 : Nat) : Int) := and_low m 1 hm (by omega)

theorem split_loop (x : Int) (q : Nat) : ∀ (c k : Nat) (e : Int), c < k → -2000 ≤ e → e + c ≤ 2000 → 2 ^ c * (2 * q + 1) < 2 ^ 64 →
    stoleref1_Split.l0 k x ((2 ^ c * (2 * q + 1) : Nat) : Int) e = some ((x / 9223372036854775808) == 1, ((2 * q + 1 : Nat) : Int), e + c) := by
  intro c
  induction c with
  | zero =>
    intro k e hk h1 h2 h3
    obtain ⟨k, rfl⟩ : ∃ m, k = m + 1 := ⟨k - 1, by omega⟩
    rw [Nat.pow_zero, Nat.one_mul] at h3 ⊢
    simp only [stoleref1_Split.l0]
    rw [if_neg (by omega), and_one _ h3, if_neg (by omega)]
    simp
  | succ c ih =>
    intro k e hk h1 h2 h3
    obtain ⟨k, rfl⟩ : ∃ m, k = m + 1 := ⟨k - 1, by omega⟩
    have hp : 0 < 2 ^ c := Nat.two_pow_pos _
    have e1 : 2 ^ (c + 1) * (2 * q + 1) = 2 * (2 ^ c * (2 * q + 1)) := by rw [Nat.pow_succ, Nat.mul_comm (2 ^ c) 2, Nat.mul_assoc]
    rw [e1] at h3 ⊢
    have hpos : 0 < 2 ^ c * (2 * q + 1) := Nat.mul_pos hp (by omega)
    have ih' := ih k (e + 1) (by omega) (by omega) (by omega)
    generalize 2 ^ c * (2 * q + 1) = m at *
    simp only [stoleref1_Split.l0]
    rw [if_neg (by omega), and_one _ h3, if_pos (by omega)]
    have e2 : ((2 * m : Nat) : Int) / 2 = (m : Int) := by omega
    have e3 : wrap64 (e + 1) = e + 1 := by unfold wrap64; omega
    rw [e2, e3, ih' (by omega)]
    congr 3; omega

theorem ctz_parts (m : Nat) (h0 : m ≠ 0) (hm : m < 2 ^ 64) : ∃ q, m = 2 ^ Lib.ctz 64 m * (2 * q + 1) ∧ m / 2 ^ Lib.ctz 64 m = 2 * q + 1 ∧ Lib.ctz 64 m < 64 := by
  have e : Lib.ctz 64 m = Lib.ctzFrom 64 m := by unfold Lib.ctz; rw [if_neg h0]
  obtain ⟨q, h1, h2⟩ := Lib.ctzFrom_spec 64 m (by omega) hm
  rw [e]
  refine ⟨q, h1, ?_, h2⟩
  generalize Lib.ctzFrom 64 m = c at *
  rw [h1, Nat.mul_div_cancel_left _ (Nat.two_pow_pos c)]

theorem mant_lt (b : Nat) : mant b < 2 ^ 53 := by unfold mant; split <;> omega
theorem expo_range (b : Nat) : -1074 ≤ expo b ∧ expo b ≤ 972 := by unfold expo; split <;> omega

theorem split_f (b : Nat) (hb : b < 2 ^ 64) (h0 : mant b ≠ 0) (k : Nat) (hk : 66 ≤ k) :
    stoleref1_Split.f k (b : Int) = some (((b : Int) / 9223372036854775808) == 1, (oddN b : Int), powI b) := by
  obtain ⟨k, rfl⟩ : ∃ m, k = m + 1 := ⟨k - 1, by omega⟩
  have hE : b / 2 ^ 52 % 2048 < 2048 := Nat.mod_lt _ (by decide)
  obtain ⟨q, h1, h2, h3⟩ := ctz_parts (mant b) h0 (by have := mant_lt b; omega)
  obtain ⟨x0, x1⟩ := expo_range b
  have hlt := mant_lt b
  have key := split_loop (b : Int) q (Lib.ctz 64 (mant b)) k (expo b) (by omega) (by omega) (by omega) (by rw [← h1]; omega)
  rw [← h1, ← h2] at key
  unfold oddN powI
  generalize Lib.ctz 64 (mant b) = c at key ⊢
  generalize hq : mant b / 2 ^ c = o at key ⊢
  clear h1 h2 h3 hq
  unfold stoleref1_Split.f
  rw [and11 b hb, and52 b hb]
  have e1 : wrap64 ((b / 2 ^ 52 % 2048 : Nat) : Int) = ((b / 2 ^ 52 % 2048 : Nat) : Int) := by unfold wrap64; omega
  rw [e1, or52 _ (Nat.mod_lt _ (by decide))]
  by_cases hz : b / 2 ^ 52 % 2048 = 0
  · have em : mant b = b % 2 ^ 52 := by unfold mant; rw [if_pos hz]
    have ee : expo b = -1074 := by unfold expo; rw [if_pos hz]
    rw [if_pos (by omega)]
    simp only [stoleref1_Split.j0]
    rw [← em, ← ee]
    exact key
  · have em : mant b = b % 2 ^ 52 + 2 ^ 52 := by unfold mant; rw [if_neg hz]
    have ee : expo b = ((b / 2 ^ 52 % 2048 : Nat) : Int) - 1075 := by unfold expo; rw [if_neg hz]
    rw [if_neg (by omega)]
    simp only [stoleref1_Split.j0]
    have e2 : wrap64 (((b / 2 ^ 52 % 2048 : Nat) : Int) - 1075) = ((b / 2 ^ 52 % 2048 : Nat) : Int) - 1075 := by unfold wrap64; omega
    rw [e2, ← em, ← ee]
    exact key

/-! ### Real -/
theorem two_dvd_pow (m c n q : Nat) (h : m = 2 ^ c * (2 * q + 1)) : m % 2 ^ n = 0 ↔ n ≤ c := by
  constructor
  · intro hd
    by_cases hn : n ≤ c
    · exact hn
    · exfalso
      have h1 : 2 ^ (c + 1) ∣ m := Nat.dvd_trans (Nat.pow_dvd_pow 2 (by omega)) (Nat.dvd_of_mod_eq_zero hd)
      rw [h, Nat.pow_succ] at h1
      have h2 := Nat.dvd_of_mul_dvd_mul_left (Nat.two_pow_pos c) h1
      omega
  · intro hn
    rw [h]
    have : 2 ^ n ∣ 2 ^ c * (2 * q + 1) := Nat.dvd_trans (Nat.pow_dvd_pow 2 hn) (Nat.dvd_mul_right _ _)
    exact Nat.mod_eq_zero_of_dvd this

theorem shr_pow (n : Nat) (hn : n ≤ 52) : shr .u64 9007199254740991 (n : Int) = ((9007199254740991 / 2 ^ n : Nat) : Int) := by
  unfold shr
  have e1 : IntKind.bits .u64 = 64 := rfl
  rw [Int.toNat_natCast, e1, Nat.min_eq_left (by omega), Int.natCast_ediv, Int.natCast_pow]
  rfl

theorem real_test (b : Nat) (hf : b / 2 ^ 52 % 2048 ≠ 2047) (h0 : mant b ≠ 0) :
    (0 ≤ powI b ∧ powI b ≤ 52 ∧ oddN b ≤ 9007199254740991 / 2 ^ (powI b).toNat) ↔ kindN b = 3 := by
  obtain ⟨q, h1, h2, h3⟩ := ctz_parts (mant b) h0 (by have := mant_lt b; omega)
  have hlt := mant_lt b
  have hE : b / 2 ^ 52 % 2048 < 2048 := Nat.mod_lt _ (by decide)
  have ho : oddN b = 2 * q + 1 := h2
  have hpw : powI b = expo b + Lib.ctz 64 (mant b) := rfl
  have hk : kindN b = 3 ↔ (1023 ≤ b / 2 ^ 52 % 2048 ∧ b / 2 ^ 52 % 2048 ≤ 1075 ∧ b % 2 ^ 52 % 2 ^ (1075 - b / 2 ^ 52 % 2048) = 0) := by
    unfold kindN
    rw [if_neg hf]
    by_cases hz : b / 2 ^ 52 % 2048 = 0 ∧ b % 2 ^ 52 = 0
    · exfalso; apply h0; unfold mant; rw [if_pos hz.1]; exact hz.2
    · rw [if_neg hz]
      by_cases h : 1023 ≤ b / 2 ^ 52 % 2048 ∧ b / 2 ^ 52 % 2048 ≤ 1075 ∧ b % 2 ^ 52 % 2 ^ (1075 - b / 2 ^ 52 % 2048) = 0
      · rw [if_pos h]; exact ⟨fun _ => h, fun _ => rfl⟩
      · rw [if_neg h]; exact ⟨fun c => absurd c (by decide), fun c => absurd c h⟩
  rw [hk, ho, hpw]
  by_cases hz : b / 2 ^ 52 % 2048 = 0
  · have em : mant b = b % 2 ^ 52 := by unfold mant; rw [if_pos hz]
    have ee : expo b = -1074 := by unfold expo; rw [if_pos hz]
    have hc : Lib.ctz 64 (mant b) < 64 := h3
    constructor
    · intro h; omega
    · intro h; omega
  · have em : mant b = b % 2 ^ 52 + 2 ^ 52 := by unfold mant; rw [if_neg hz]
    have ee : expo b = ((b / 2 ^ 52 % 2048 : Nat) : Int) - 1075 := by unfold expo; rw [if_neg hz]
    have hM : b % 2 ^ 52 < 2 ^ 52 := Nat.mod_lt _ (by decide)
    generalize Lib.ctz 64 (mant b) = c at *
    rw [ee]
    have hc52 : c ≤ 52 := by
      by_cases h : c ≤ 52
      · exact h
      · have : 2 ^ 53 ≤ 2 ^ c := Nat.pow_le_pow_right (by omega) (by omega)
        have h5 : 2 ^ c * 1 ≤ 2 ^ c * (2 * q + 1) := Nat.mul_le_mul_left _ (by omega)
        omega
    by_cases hbig : b / 2 ^ 52 % 2048 ≤ 1075
    · have hd : (b % 2 ^ 52 % 2 ^ (1075 - b / 2 ^ 52 % 2048) = 0 ∧ 1023 ≤ b / 2 ^ 52 % 2048) ↔ (1075 - b / 2 ^ 52 % 2048 ≤ c ∧ 1023 ≤ b / 2 ^ 52 % 2048) := by
        by_cases hlow : 1023 ≤ b / 2 ^ 52 % 2048
        · rw [← two_dvd_pow _ c (1075 - b / 2 ^ 52 % 2048) q h1, em]
          have e5 : (b % 2 ^ 52 + 2 ^ 52) % 2 ^ (1075 - b / 2 ^ 52 % 2048) = b % 2 ^ 52 % 2 ^ (1075 - b / 2 ^ 52 % 2048) := by
            have hn : 1075 - b / 2 ^ 52 % 2048 ≤ 52 := by omega
            generalize b % 2 ^ 52 = M
            generalize 1075 - b / 2 ^ 52 % 2048 = n at hn ⊢
            rw [pow52 n (52 - n) (by omega), Nat.add_mul_mod_self_left]
          rw [e5]
        · constructor <;> intro h <;> omega
      constructor
      · intro h
        have h9 : 1023 ≤ b / 2 ^ 52 % 2048 := by omega
        exact ⟨h9, hbig, (hd.2 ⟨by omega, h9⟩).1⟩
      · intro h
        have h8 := (hd.1 ⟨h.2.2, h.1⟩).1
        refine ⟨by omega, by omega, ?_⟩
        have ep : (((b / 2 ^ 52 % 2048 : Nat) : Int) - 1075 + (c : Int)).toNat = c - (1075 - b / 2 ^ 52 % 2048) := by omega
        rw [ep, Nat.le_div_iff_mul_le (Nat.two_pow_pos _)]
        have h7 : (2 * q + 1) * 2 ^ (c - (1075 - b / 2 ^ 52 % 2048)) ≤ (2 * q + 1) * 2 ^ c := Nat.mul_le_mul_left _ (Nat.pow_le_pow_right (by omega) (by omega))
        rw [Nat.mul_comm (2 * q + 1) (2 ^ c), ← h1] at h7
        omega
    · constructor
      · intro h
        exfalso
        obtain ⟨h4, h5, h6⟩ := h
        have ep : (((b / 2 ^ 52 % 2048 : Nat) : Int) - 1075 + (c : Int)).toNat = c + (b / 2 ^ 52 % 2048 - 1075) := by omega
        rw [ep, Nat.le_div_iff_mul_le (Nat.two_pow_pos _), Nat.pow_add, ← Nat.mul_assoc, Nat.mul_comm (2 * q + 1) (2 ^ c), ← h1] at h6
        have h7 : 2 ^ 1 ≤ 2 ^ (b / 2 ^ 52 % 2048 - 1075) := Nat.pow_le_pow_right (by omega) (by omega)
        have h8 : mant b * 2 ^ 1 ≤ mant b * 2 ^ (b / 2 ^ 52 % 2048 - 1075) := Nat.mul_le_mul_left _ h7
        omega
      · intro h; omega

theorem real_f (b : Nat) (hb : b < 2 ^ 64) (k : Nat) (hk : 68 ≤ k) : stoleref1_Real.f k (b : Int) = some (kindN b) := by
  obtain ⟨k, rfl⟩ : ∃ m, k = m + 2 := ⟨k - 2, by omega⟩
  have hE : b / 2 ^ 52 % 2048 < 2048 := Nat.mod_lt _ (by decide)
  have hM : b % 2 ^ 52 < 2 ^ 52 := Nat.mod_lt _ (by decide)
  unfold stoleref1_Real.f
  rw [and11 b hb, and52 b hb]
  by_cases h1 : b / 2 ^ 52 % 2048 = 2047
  · rw [if_pos (by omega)]
    by_cases h2 : b % 2 ^ 52 = 0
    · have e : kindN b = 1 := by unfold kindN; rw [if_pos h1, if_pos h2]
      rw [e, h2]
      simp only [stoleref1_Real.j0]
      rw [if_neg (by decide), if_pos (by omega)]
    · have e : kindN b = 0 := by unfold kindN; rw [if_pos h1, if_neg h2]
      have hne : (((b % 2 ^ 52 : Nat) : Int) != 0) = true := by rw [bne_iff_ne]; omega
      rw [e, hne]
      simp only [stoleref1_Real.j0, if_true]
  · rw [if_neg (by omega)]
    simp only [stoleref1_Real.j0, Bool.false_eq_true, if_false]
    rw [if_neg (by omega)]
    by_cases hz : b / 2 ^ 52 % 2048 = 0 ∧ b % 2 ^ 52 = 0
    · have e : kindN b = 2 := by unfold kindN; rw [if_neg h1, if_pos hz]
      rw [if_pos (by omega), hz.2, e]
      simp [stoleref1_Real.j1]
    · have hm : mant b ≠ 0 := by unfold mant; split <;> omega
      have hs := split_f b hb hm k (by omega)
      have ht := real_test b h1 hm
      have hbr : ∀ z : Bool, z = false → stoleref1_Real.j1 (k + 1) (b : Int) z = some (kindN b) := by
        intro z hz'
        subst hz'
        simp only [stoleref1_Real.j1, Bool.false_eq_true, if_false]
        rw [hs]
        simp only [Option.bind_some]
        have other : kindN b ≠ 3 → kindN b = 4 := by
          intro h3
          unfold kindN at h3 ⊢
          rw [if_neg h1, if_neg hz] at h3 ⊢
          split at h3
          · exact absurd rfl h3
          · rename_i h9; rw [if_neg h9]
        by_cases p0 : powI b ≥ 0
        · rw [if_pos p0]
          by_cases p1 : powI b ≤ 52
          · have ew : IntKind.u64.wrap (powI b) = (((powI b).toNat : Nat) : Int) := by rw [wrap_u64 _ (by omega) (by omega)]; omega
            rw [if_pos p1, ew, if_pos (by omega), shr_pow _ (by omega)]
            by_cases p2 : oddN b ≤ 9007199254740991 / 2 ^ (powI b).toNat
            · rw [if_pos (by omega), ht.1 ⟨p0, p1, p2⟩]
            · rw [if_neg (by omega), other (fun h => p2 (ht.2 h).2.2)]
          · rw [if_neg p1, other (fun h => p1 (ht.2 h).2.1)]
        · rw [if_neg p0, other (fun h => p0 (ht.2 h).1)]
      by_cases h3 : b / 2 ^ 52 % 2048 = 0
      · rw [if_pos (by omega)]
        exact hbr _ (by rw [beq_eq_false_iff_ne]; omega)
      · rw [if_neg (by omega)]
        exact hbr _ rfl

end Go.Proofs.YtoocfodefbechaaGreatDoor.RefReals
