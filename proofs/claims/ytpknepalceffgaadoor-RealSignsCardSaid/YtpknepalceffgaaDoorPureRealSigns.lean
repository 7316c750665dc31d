/- A real and the one of the other sign: the law RealSigns, over numbers alone. -/
import Derived.Test.YtpknepalceffgaaDoorQ3
import Derived.Test.YtpknepalceffgaaDoorRealLemmas
namespace Go.Proofs.YtpknepalceffgaaDoor.Pure
open Go.RowKit Go.Proofs.YtpknepalceffgaaDoor.Q Go.Proofs.YtpknepalceffgaaDoor.Real Go.Proofs.YtpknepalceffgaaDoor.RealPure Go.Proofs.YtpknepalceffgaaDoor.PureReals Go.Proofs.YtpknepalceffgaaDoorW.PrintWords Go.Proofs.YtpknepalceffgaaDoorW.PrintLast Go.Proofs.YtpknepalceffgaaDoorW.PrintMore

theorem pair_sign (K : Int) (v : Nat) (hv : v < 9007199254740992) :
    ((if K = 3 ∨ K = 2 then ((v : Int), true) else ((0 : Int), false)).1 != wrap64 (-(if K = 3 ∨ K = 2 then (-(v : Int), true) else ((0 : Int), false)).1)) = false
    ∧ ((if K = 3 ∨ K = 2 then ((v : Int), true) else ((0 : Int), false)).2 != (if K = 3 ∨ K = 2 then (-(v : Int), true) else ((0 : Int), false)).2) = false
    ∧ (if K = 3 ∨ K = 2 then ((v : Int), true) else ((0 : Int), false)).2 = decide (K = 3 ∨ K = 2) := by
  by_cases hk : K = 3 ∨ K = 2
  · rw [if_pos hk, if_pos hk, decide_eq_true hk]
    have e : wrap64 (-(-(v : Int))) = (v : Int) := by unfold wrap64; omega
    refine ⟨?_, rfl, rfl⟩
    show ((v : Int) != wrap64 (-(-(v : Int)))) = false
    rw [e]; simp
  · rw [if_neg hk, if_neg hk, decide_eq_false hk]
    exact ⟨by simp [wrap64], rfl, rfl⟩

theorem signs_core (K : Int) (c : UInt8) (l : List UInt8) (hK : K ≠ 0) (hc : c ≠ 45) (hl : (c :: l).length ≤ 100) (hr : K = 1 ∨ K = 2 ∨ K = 3 ∨ K = 4) :
    stolelaw3_RealSigns.j0 1 ⟨(c :: l).toArray⟩ ⟨(45 :: c :: l).toArray⟩ (decide (K = 3 ∨ K = 2)) K false = some true := by
  simp only [stolelaw3_RealSigns.j0, Bool.false_eq_true, if_false]
  rw [if_neg hK, size_mk, if_pos (by omega), show (⟨#[45]⟩ : ByteArray) = ⟨[45].toArray⟩ from rfl, append_mk, toList_mk, toList_mk, toList_mk, if_pos (by rfl)]
  have hbt : ¬ bt (⟨(c :: l).toArray⟩ : ByteArray) 0 = 45 := by
    have e : bt (⟨(c :: l).toArray⟩ : ByteArray) 0 = (c.toNat : Int) := rfl
    rw [e]
    intro h
    apply hc
    apply UInt8.toNat_inj.1
    have : (45 : UInt8).toNat = 45 := rfl
    omega
  rw [if_neg (by simp), if_pos (by simp), if_neg hbt]
  rcases hr with rfl | rfl | rfl | rfl <;> rfl

theorem nan_core : stolelaw3_RealSigns.j0 1 ⟨[78, 97, 78].toArray⟩ ⟨[78, 97, 78].toArray⟩ (decide ((0 : Int) = 3 ∨ (0 : Int) = 2)) 0 false = some true := by
  simp only [stolelaw3_RealSigns.j0]
  rw [toList_mk]
  simp

theorem RealSigns : stolelaw3_RealSigns.Pure := by
  intro a0 hw
  obtain ⟨b0, rfl, hb0⟩ := wf_u64 hw
  refine ⟨1, ?_⟩
  unfold stolelaw3_RealSigns.f
  rw [awake, and63 b0 hb0, or63 b0 hb0]
  have hb : b0 % 2 ^ 63 < 2 ^ 63 := Nat.mod_lt _ (by decide)
  generalize b0 % 2 ^ 63 = b at *
  obtain ⟨k1, k2, k3, k4⟩ := kind_sign b
  obtain ⟨w1, w2⟩ := whole_sign b hb
  rw [text_f b (by omega), text_f (b + 2 ^ 63) (by omega), whole_f b (by omega), whole_f (b + 2 ^ 63) (by omega), kind_f b (by omega), kind_f (b + 2 ^ 63) (by omega), k1, w1, w2]
  have hl := text_length b
  have hr := kind_range b
  have hv : wv b < 9007199254740992 := by
    by_cases hk : kindN b = 3 ∨ kindN b = 2
    · exact (toInt_whole b hk).2
    · unfold wv
      split
      · omega
      · exact Nat.lt_of_le_of_lt (Nat.div_le_self _ _) (by omega)
  obtain ⟨p1, p2, p3⟩ := pair_sign (kindN b) (wv b) hv
  simp only [Option.bind_some, if_true]
  rw [p1, p2, p3]
  simp only [Bool.false_eq_true, if_false]
  by_cases h0 : kindN b = 0
  · rw [text_nan b h0, text_nan (b + 2 ^ 63) (by rw [k1, h0]), h0]
    exact nan_core
  · obtain ⟨t1, c, l, t2, hc⟩ := text_sign b hb h0
    rw [t1, t2]
    rw [t2] at hl
    exact signs_core (kindN b) c l h0 hc hl (by omega)
end Go.Proofs.YtpknepalceffgaaDoor.Pure
