/- A real that is no whole number is told as an odd one and a power: the law RealOthers, over numbers alone. -/
import Derived.Test.YtpknepalceffgaaDoorQ3
import Derived.Test.YtpknepalceffgaaDoorRealWords
namespace Go.Proofs.YtpknepalceffgaaDoor.Pure
open Go.RowKit Go.Proofs.YtpknepalceffgaaDoor.Q Go.Proofs.YtpknepalceffgaaDoor.Real Go.Proofs.YtpknepalceffgaaDoor.RealPure Go.Proofs.YtpknepalceffgaaDoor.PureReals Go.Proofs.YtpknepalceffgaaDoor.RefReals Go.Proofs.YtpknepalceffgaaDoor.RealWords Go.Proofs.YtpknepalceffgaaDoorW.PrintWords Go.Proofs.YtpknepalceffgaaDoorW.PrintLast Go.Proofs.YtpknepalceffgaaDoorW.PrintMore

theorem others_skip (neg : Bool) (K : Nat) (p : Int) (T : Nat) (hT : T < 64) (hK : K < 2 ^ T) (k : Nat) : stolelaw3_RealOthers.l0 (k + 1) neg (K : Int) p (T : Int) = stolelaw3_RealOthers.l0 k neg (K : Int) p (wrap64 ((T : Int) - 1)) := by
  simp only [stolelaw3_RealOthers.l0]
  rw [wrap_u64 _ (by omega) (by omega), if_pos (by omega), shr_u64 K T (by omega), Nat.div_eq_of_lt hK, if_pos (show ((0 : Nat) : Int) = 0 from rfl)]

theorem others_tail (neg : Bool) (D X : List UInt8) (b c : Int) (hD : D.length ≤ 20) (hX : X.length ≤ 20) (hor : bits .or .u64 b 9223372036854775808 = c)
    (wb : real_Whole.f b = some ((0 : Int), false)) (kb : real_Kind.f b = some 4) (tb : real_Text.f b = some ⟨(D ++ [112] ++ 45 :: X).toArray⟩)
    (wc : real_Whole.f c = some ((0 : Int), false)) (kc : real_Kind.f c = some 4) (tc : real_Text.f c = some ⟨(45 :: (D ++ [112] ++ 45 :: X)).toArray⟩) :
    (if (⟨D.toArray⟩ : ByteArray).size + 2 ≤ 9223372036854775807 then ((some (⟨X.toArray⟩ : ByteArray)).bind fun t171 => (if ((⟨D.toArray⟩ : ByteArray) ++ (⟨#[112, 45]⟩ : ByteArray)).size + t171.size ≤ 9223372036854775807 then (if neg = true then (if 1 + (((⟨D.toArray⟩ : ByteArray) ++ (⟨#[112, 45]⟩ : ByteArray)) ++ t171).size ≤ 9223372036854775807 then ((real_Whole.f (bits .or .u64 b 9223372036854775808)).bind fun bt172 => ((real_Kind.f (bits .or .u64 b 9223372036854775808)).bind fun t174 => (if t174 = 4 then ((real_Text.f (bits .or .u64 b 9223372036854775808)).bind fun t175 => (if t175.toList = ((⟨#[45]⟩ : ByteArray) ++ (((⟨D.toArray⟩ : ByteArray) ++ (⟨#[112, 45]⟩ : ByteArray)) ++ t171)).toList then (some (!bt172.2)) else (some false))) else (some false)))) else (none)) else ((real_Whole.f b).bind fun bt176 => ((real_Kind.f b).bind fun t178 => (if t178 = 4 then ((real_Text.f b).bind fun t179 => (if t179.toList = (((⟨D.toArray⟩ : ByteArray) ++ (⟨#[112, 45]⟩ : ByteArray)) ++ t171).toList then (some (!bt176.2)) else (some false))) else (some false))))) else (none))) else (none)) = some true := by
  have e : (⟨#[45]⟩ : ByteArray) = ⟨[45].toArray⟩ := rfl
  have e2 : (⟨#[112, 45]⟩ : ByteArray) = ⟨[112, 45].toArray⟩ := rfl
  have e3 : D ++ [112, 45] ++ X = D ++ [112] ++ 45 :: X := by simp
  rw [size_mk, if_pos (by omega), Option.bind_some, e2, append_mk, append_mk, size_mk, size_mk, size_mk, if_pos (by simp; omega), e3]
  cases neg
  · rw [if_neg (by decide), wb, Option.bind_some, kb, Option.bind_some, if_pos rfl, tb, Option.bind_some, if_pos rfl]; rfl
  · rw [if_pos rfl, if_pos (by simp; omega), hor, wc, Option.bind_some, kc, Option.bind_some, if_pos rfl, tc, Option.bind_some, e, append_mk, if_pos (by rw [toList_mk, toList_mk]; rfl)]; rfl

theorem exp_wrap (T P E : Nat) (hT : T ≤ 52) (hP : P ≤ 512) (hE : E + P = T + 1023) : IntKind.u64.wrap (wrap64 (wrap64 (-(P : Int) + (T : Int)) + 1023)) = (E : Int) := by
  have e : wrap64 (-(P : Int) + (T : Int)) = (T : Int) - P := by unfold wrap64; omega
  have e2 : wrap64 ((T : Int) - P + 1023) = (E : Int) := by unfold wrap64; omega
  rw [e, e2, wrap_u64 _ (by omega) (by omega)]
theorem back_wrap (n : Nat) (hn : n < 2 ^ 53) : wrap64 (n : Int) = (n : Int) ∧ wrap64 (-(-(n : Int))) = (n : Int) := by
  constructor <;> (unfold wrap64; omega)

theorem others_found (neg : Bool) (q T P : Nat) (hT : T ≤ 51) (hP : 1 ≤ P) (hP2 : P ≤ 512) (h1 : 2 ^ T ≤ 2 * q + 1) (h2 : 2 * q + 1 < 2 ^ (T + 1)) (k : Nat) (hk : 25 ≤ k) : stolelaw3_RealOthers.l0 (k + 1) neg ((2 * q + 1 : Nat) : Int) (-(P : Int)) (T : Int) = some true := by
  have hE1 : 1 ≤ T + 1023 - P := by omega
  have hE2 : T + 1023 - P < 2047 := by omega
  have hE3 : T + 1023 - P + P = T + 1023 := by omega
  have hT52 : T ≤ 52 := by omega
  have hK : 2 * q + 1 < 2 ^ 53 := Nat.lt_of_lt_of_le h2 (Nat.pow_le_pow_right (by omega) (by omega))
  have hd1 := nDigits_20 (2 * q + 1) (by omega)
  have hd2 := nDigits_20 P (by omega)
  rw [← Lib.decDigits_length] at hd1 hd2
  have hD := decimal_f (2 * q + 1) (by omega) k hk
  have hX := decimal_f P (by omega) k hk
  have a1 := nat_wrap T (by omega)
  have a2 := shr_u64 (2 * q + 1) T (by omega)
  have a3 := top_set (2 * q + 1) T h1
  have a4 := low_wrap T hT52
  have a5 := exp_wrap T P (T + 1023 - P) hT52 hP2 hE3
  have a6 := (back_wrap (2 * q + 1) hK).1
  have a7 := (back_wrap P (by omega)).2
  obtain ⟨M, b, e1, e2, hb, hk4, ht⟩ := other_of q T P hT52 h1 h2 (T + 1023 - P) hE1 hE2 hP hE3
  obtain ⟨c, hc, hor, ks, s2, s1, htc⟩ := flip_of b hb
  rw [hk4] at ks
  have t2 : textL c = 45 :: (Lib.decDigits (2 * q + 1) ++ [112] ++ 45 :: Lib.decDigits P) := by rw [htc (by rw [hk4]; decide), ht]
  have hb64 : b < 2 ^ 64 := Nat.lt_trans hb (by decide)
  have wb := whole_f b hb64
  have kb := kind_f b hb64
  have tb := text_f b hb64
  have wc := whole_f c hc
  have kc := kind_f c hc
  have tc := text_f c hc
  have hno : ¬ ((4 : Int) = 3 ∨ (4 : Int) = 2) := by decide
  rw [hk4, if_neg hno] at wb
  rw [ks, if_neg hno] at wc
  rw [hk4] at kb
  rw [ks] at kc
  rw [ht] at tb
  rw [t2] at tc
  have fin := others_tail neg _ _ (b : Int) (c : Int) hd1 hd2 hor wb kb tb wc kc tc
  rw [← e2, ← e1] at fin
  clear wb kb tb wc kc tc t2 ht htc s1 s2 ks hk4 hor hc hb hb64 e1 e2
  simp only [stolelaw3_RealOthers.l0]
  rw [a1, if_pos (nat_nonneg T), a2, if_neg a3, a4, if_pos (nat_nonneg _), a6, hD, Option.bind_some, a7, hX, a5]
  exact fin

theorem others_loop (neg : Bool) (q P : Nat) (hP : 1 ≤ P) (hP2 : P ≤ 512) : ∀ (T k : Nat), T ≤ 51 → 2 * q + 1 < 2 ^ (T + 1) → T + 26 < k → stolelaw3_RealOthers.l0 k neg ((2 * q + 1 : Nat) : Int) (-(P : Int)) (T : Int) = some true := by
  intro T
  induction T with
  | zero =>
    intro k hT hK hk
    obtain ⟨k, rfl⟩ : ∃ m, k = m + 1 := ⟨k - 1, by omega⟩
    exact others_found neg q 0 P (by omega) hP hP2 (by omega) hK k (by omega)
  | succ T ih =>
    intro k hT hK hk
    obtain ⟨k, rfl⟩ : ∃ m, k = m + 1 := ⟨k - 1, by omega⟩
    by_cases h : 2 ^ (T + 1) ≤ 2 * q + 1
    · exact others_found neg q (T + 1) P hT hP hP2 h hK k (by omega)
    · rw [others_skip neg (2 * q + 1) _ (T + 1) (by omega) (by omega) k]
      have e : wrap64 (((T + 1 : Nat) : Int) - 1) = (T : Int) := by unfold wrap64; omega
      rw [e]
      exact ih k (by omega) (by omega) (by omega)

theorem RealOthers : stolelaw3_RealOthers.Pure := by
  intro a0 a1 a2 hw _
  obtain ⟨b, rfl, hb⟩ := wf_u64 hw
  refine ⟨100, ?_⟩
  obtain ⟨P, hP, hP2⟩ := and9 a1
  obtain ⟨q, hq, hq2⟩ := or_one (b % 2 ^ 52) (Nat.mod_lt _ (by decide))
  unfold stolelaw3_RealOthers.f
  rw [awake, Option.bind_some, if_pos rfl, and52 b hb, hq, hP]
  have e : wrap64 (-1 - (P : Int)) = -((P + 1 : Nat) : Int) := by unfold wrap64; omega
  rw [e]
  exact others_loop a2 q (P + 1) (by omega) (by omega) 51 100 (by omega) hq2 (by omega)
end Go.Proofs.YtpknepalceffgaaDoor.Pure
