/- Which kind which bits are: the law RealKinds, over numbers alone. -/
import Derived.Test.YtpknepalceffgaaDoorQ4
import Derived.Test.YtpknepalceffgaaDoorRealLemmas
namespace Go.Proofs.YtpknepalceffgaaDoor.Pure
open Go.RowKit Go.Proofs.YtpknepalceffgaaDoor.Q Go.Proofs.YtpknepalceffgaaDoor.Real Go.Proofs.YtpknepalceffgaaDoor.RealPure Go.Proofs.YtpknepalceffgaaDoor.PureReals Go.Proofs.YtpknepalceffgaaDoorW.PrintWords Go.Proofs.YtpknepalceffgaaDoorW.PrintLast Go.Proofs.YtpknepalceffgaaDoorW.PrintMore

theorem RealKinds : stolelaw3_RealKinds.Pure := by
  intro a0 hw
  obtain ⟨b, rfl, hb⟩ := wf_u64 hw
  refine ⟨3, ?_⟩
  have hE : b / 2 ^ 52 % 2048 < 2048 := Nat.mod_lt _ (by decide)
  have hM : b % 2 ^ 52 < 2 ^ 52 := Nat.mod_lt _ (by decide)
  unfold stolelaw3_RealKinds.f
  rw [awake, kind_f b hb, and11 b hb, and52 b hb]
  simp only [Option.bind_some, if_true]
  have hk : kindN b = if b / 2 ^ 52 % 2048 = 2047 then (if b % 2 ^ 52 = 0 then 1 else 0)
      else if b / 2 ^ 52 % 2048 = 0 ∧ b % 2 ^ 52 = 0 then 2
      else if 1023 ≤ b / 2 ^ 52 % 2048 ∧ b / 2 ^ 52 % 2048 ≤ 1075 ∧ b % 2 ^ 52 % 2 ^ (1075 - b / 2 ^ 52 % 2048) = 0 then 3 else 4 := rfl
  generalize kindN b = K at *
  generalize b / 2 ^ 52 % 2048 = E at *
  generalize b % 2 ^ 52 = M at *
  by_cases h1 : E = 2047
  · subst h1
    rw [if_pos rfl] at hk
    rw [if_pos (show ((2047 : Nat) : Int) = 2047 from rfl)]
    by_cases h2 : M = 0
    · subst h2; rw [if_pos rfl] at hk; subst hk
      simp [stolelaw3_RealKinds.j0]
    · rw [if_neg h2] at hk; subst hk
      simp [stolelaw3_RealKinds.j0, h2]
  · rw [if_neg h1] at hk
    rw [if_neg (by omega)]
    simp only [stolelaw3_RealKinds.j0, Bool.false_eq_true, if_false]
    rw [if_neg (by omega)]
    by_cases h2 : E = 0
    · subst h2
      rw [if_pos (show ((0 : Nat) : Int) = 0 from rfl)]
      by_cases h3 : M = 0
      · subst h3; rw [if_pos ⟨rfl, rfl⟩] at hk; subst hk
        simp [stolelaw3_RealKinds.j1]
      · rw [if_neg (by omega), if_neg (by omega)] at hk; subst hk
        simp [stolelaw3_RealKinds.j1, stolelaw3_RealKinds.j2, h3]
    · rw [if_neg (by omega)] at hk
      rw [if_neg (by omega)]
      simp only [stolelaw3_RealKinds.j1, Bool.false_eq_true, if_false]
      by_cases h3 : E < 1023
      · rw [if_neg (by omega)] at hk; subst hk
        rw [if_pos (by omega)]
        simp [stolelaw3_RealKinds.j2]
      · rw [if_neg (by omega)]
        by_cases h4 : E > 1075
        · rw [if_neg (by omega)] at hk; subst hk
          rw [decide_eq_true (by omega)]
          simp [stolelaw3_RealKinds.j2]
        · rw [decide_eq_false (by omega)]
          simp only [stolelaw3_RealKinds.j2, Bool.false_eq_true, if_false]
          by_cases h5 : E = 1075
          · subst h5
            rw [if_pos ⟨by omega, by omega, by simp [Nat.mod_one]⟩] at hk; subst hk
            rw [if_pos (show ((1075 : Nat) : Int) = 1075 from rfl)]; rfl
          · rw [if_neg (by omega)]
            obtain ⟨n, hn, hn2⟩ : ∃ n : Nat, E = 1075 - n ∧ n ≤ 52 := ⟨1075 - E, by omega, by omega⟩
            have e1 : IntKind.u64.wrap (1075 - (E : Int)) = (n : Int) := by rw [wrap_u64 _ (by omega) (by omega)]; omega
            have hp : 2 ^ n ≤ 2 ^ 52 := Nat.pow_le_pow_right (by omega) hn2
            have hp1 : 1 ≤ 2 ^ n := Nat.two_pow_pos _
            have e2 : shl .u64 1 (n : Int) = ((2 ^ n : Nat) : Int) := by
              have := shl_pow 1 n (by omega) (by omega)
              rw [Nat.one_mul] at this; exact this
            have e3 : IntKind.u64.wrap (((2 ^ n : Nat) : Int) - 1) = ((2 ^ n - 1 : Nat) : Int) := by
              rw [wrap_u64 _ (by omega) (by omega)]; omega
            rw [e1, e2, e3, and_low M n (by omega) (by omega), if_pos (by omega)]
            have e4 : 1075 - E = n := by omega
            rw [e4] at hk
            by_cases h6 : M % 2 ^ n = 0
            · rw [if_pos ⟨by omega, by omega, h6⟩] at hk; subst hk
              rw [h6]; simp
            · rw [if_neg (fun c => h6 c.2.2)] at hk; subst hk
              have h7 : ¬ ((M % 2 ^ n : Nat) : Int) = 0 := by omega
              have h8 : (((M % 2 ^ n : Nat) : Int) == 0) = false := beq_eq_false_iff_ne.2 h7
              rw [h8, if_neg h7]; simp
end Go.Proofs.YtpknepalceffgaaDoor.Pure
