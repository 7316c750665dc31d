/- Each whole number that a real may be is told by its digits: the law RealWholes, over numbers alone. -/
import Derived.Test.YtpknepalceffgaaDoorRefReals
import Derived.Test.YtpknepalceffgaaDoorRealWords
namespace Go.Proofs.YtpknepalceffgaaDoor.Pure
open Go.RowKit Go.Proofs.YtpknepalceffgaaDoor.Q Go.Proofs.YtpknepalceffgaaDoor.Real Go.Proofs.YtpknepalceffgaaDoor.RealPure Go.Proofs.YtpknepalceffgaaDoor.PureReals Go.Proofs.YtpknepalceffgaaDoor.RefReals Go.Proofs.YtpknepalceffgaaDoor.RealWords Go.Proofs.YtpknepalceffgaaDoorW.PrintWords Go.Proofs.YtpknepalceffgaaDoorW.PrintLast Go.Proofs.YtpknepalceffgaaDoorW.PrintMore

/-- A round that finds the highest digit lower. -/
theorem wholes_skip (neg : Bool) (K : Nat) (T : Nat) (hT : T < 64) (hK : K < 2 ^ T) (k : Nat) : stolelaw3_RealWholes.l0 (k + 1) neg (K : Int) (T : Int) = stolelaw3_RealWholes.l0 k neg (K : Int) (wrap64 ((T : Int) - 1)) := by
  simp only [stolelaw3_RealWholes.l0]
  rw [wrap_u64 _ (by omega) (by omega), if_pos (by omega), shr_i64 K T (by omega), Nat.div_eq_of_lt hK, if_pos (show ((0 : Nat) : Int) = 0 from rfl)]

theorem wholes_tail (neg : Bool) (K : Nat) (b c : Int) (hor : bits .or .u64 b 9223372036854775808 = c) (hK : K < 2 ^ 53) (hdl : Lib.nDigits K ≤ 20)
    (wb : real_Whole.f b = some ((K : Int), true)) (kb : real_Kind.f b = some 3) (tb : real_Text.f b = some ⟨(Lib.decDigits K).toArray⟩)
    (wc : real_Whole.f c = some (-(K : Int), true)) (kc : real_Kind.f c = some 3) (tc : real_Text.f c = some ⟨(45 :: Lib.decDigits K).toArray⟩) :
    (if neg = true then (if 1 + (⟨(Lib.decDigits K).toArray⟩ : ByteArray).size ≤ 9223372036854775807 then ((real_Whole.f (bits .or .u64 b 9223372036854775808)).bind fun bt161 => ((real_Kind.f (bits .or .u64 b 9223372036854775808)).bind fun t163 => (if t163 = 3 then (if bt161.2 = true then (if bt161.1 = (wrap64 (-(K : Int))) then ((real_Text.f (bits .or .u64 b 9223372036854775808)).bind fun t164 => (some (t164.toList == ((⟨#[45]⟩ : ByteArray) ++ (⟨(Lib.decDigits K).toArray⟩ : ByteArray)).toList))) else (some false)) else (some false)) else (some false)))) else (none)) else ((real_Whole.f b).bind fun bt165 => ((real_Kind.f b).bind fun t167 => (if t167 = 3 then (if bt165.2 = true then (if bt165.1 = (K : Int) then ((real_Text.f b).bind fun t168 => (some (t168.toList == (⟨(Lib.decDigits K).toArray⟩ : ByteArray).toList))) else (some false)) else (some false)) else (some false))))) = some true := by
  have hneg : wrap64 (-(K : Int)) = -(K : Int) := by unfold wrap64; omega
  have e : (⟨#[45]⟩ : ByteArray) = ⟨[45].toArray⟩ := rfl
  cases neg
  · rw [if_neg (by decide), wb, Option.bind_some, kb, Option.bind_some, if_pos rfl, if_pos rfl, if_pos rfl, tb, Option.bind_some, beq_self_eq_true]
  · rw [if_pos rfl, size_mk, Lib.decDigits_length, if_pos (by omega), hor, wc, Option.bind_some, kc, Option.bind_some, if_pos rfl, if_pos rfl, hneg, if_pos rfl, tc, Option.bind_some, e, append_mk, toList_mk, toList_mk, List.singleton_append, beq_self_eq_true]

theorem top_wrap (T : Nat) (hT : T ≤ 52) : IntKind.u64.wrap (wrap64 ((T : Int) + 1023)) = ((T + 1023 : Nat) : Int) := by
  have e : wrap64 ((T : Int) + 1023) = (T : Int) + 1023 := by unfold wrap64; omega
  rw [e, wrap_u64 _ (by omega) (by omega)]; omega
theorem wholes_found (neg : Bool) (K : Nat) (T : Nat) (hT : T ≤ 52) (h1 : 2 ^ T ≤ K) (h2 : K < 2 ^ (T + 1)) (k : Nat) (hk : 25 ≤ k) : stolelaw3_RealWholes.l0 (k + 1) neg (K : Int) (T : Int) = some true := by
  have hE1 : 1 ≤ T + 1023 := by omega
  have hE2 : T + 1023 < 2047 := by omega
  have hK : K < 2 ^ 53 := Nat.lt_of_lt_of_le h2 (Nat.pow_le_pow_right (by omega) (by omega))
  have hdl := nDigits_20 K (by omega)
  have hD := decimal_f K (by omega) k hk
  have a1 := nat_wrap T (by omega)
  have a2 := shr_i64 K T (by omega)
  have a3 := top_set K T h1
  have a4 := low_wrap T hT
  have a5 := top_wrap T hT
  have a6 := nat_wrap K hK
  obtain ⟨M, b, e1, e2, e3, e4, hb, -, -⟩ := word_of K T hT h1 h2 (T + 1023) hE1 hE2
  have hk3 := e3 rfl
  have hw := e4 rfl
  clear e3 e4
  obtain ⟨c, hc, hor, ks, s2, s1, ht⟩ := flip_of b hb
  rw [hk3] at ks
  rw [hw] at s1 s2
  have t1 : textL b = Lib.decDigits K := by unfold textL; rw [hk3, s1, Lib.itoa_nonneg]; rfl
  have t2 : textL c = 45 :: Lib.decDigits K := by rw [ht (by rw [hk3]; decide), t1]
  have hb64 : b < 2 ^ 64 := Nat.lt_trans hb (by decide)
  have wb := whole_f b hb64
  have kb := kind_f b hb64
  have tb := text_f b hb64
  have wc := whole_f c hc
  have kc := kind_f c hc
  have tc := text_f c hc
  rw [hk3, if_pos (.inl rfl), s1] at wb
  rw [ks, if_pos (.inl rfl), s2] at wc
  rw [hk3] at kb
  rw [ks] at kc
  rw [t1] at tb
  rw [t2] at tc
  have fin := wholes_tail neg K (b : Int) (c : Int) hor hK hdl wb kb tb wc kc tc
  rw [← e2, ← e1] at fin
  clear wb kb tb wc kc tc t1 t2 ht s1 s2 ks hk3 hw hor hc hb hb64 e1 e2
  simp only [stolelaw3_RealWholes.l0]
  rw [a1, if_pos (nat_nonneg T), a2, if_neg a3, a4, if_pos (nat_nonneg _), hD, Option.bind_some, a5, a6]
  exact fin

theorem wholes_loop (neg : Bool) (K : Nat) (h0 : 1 ≤ K) : ∀ (T k : Nat), T ≤ 52 → K < 2 ^ (T + 1) → T + 26 < k → stolelaw3_RealWholes.l0 k neg (K : Int) (T : Int) = some true := by
  intro T
  induction T with
  | zero =>
    intro k hT hK hk
    obtain ⟨k, rfl⟩ : ∃ m, k = m + 1 := ⟨k - 1, by omega⟩
    exact wholes_found neg K 0 (by omega) (by omega) hK k (by omega)
  | succ T ih =>
    intro k hT hK hk
    obtain ⟨k, rfl⟩ : ∃ m, k = m + 1 := ⟨k - 1, by omega⟩
    by_cases h : 2 ^ (T + 1) ≤ K
    · exact wholes_found neg K (T + 1) hT h hK k (by omega)
    · rw [wholes_skip neg K (T + 1) (by omega) (by omega) k]
      have e : wrap64 (((T + 1 : Nat) : Int) - 1) = (T : Int) := by unfold wrap64; omega
      rw [e]
      exact ih k (by omega) (by omega) (by omega)

theorem RealWholes : stolelaw3_RealWholes.Pure := by
  intro a0 a1 _
  refine ⟨100, ?_⟩
  obtain ⟨K, hK, hK2⟩ := and53 a0
  unfold stolelaw3_RealWholes.f
  rw [awake, Option.bind_some, if_pos rfl, hK]
  by_cases h : K = 0
  · rw [if_pos (by omega)]
  · rw [if_neg (by omega)]
    exact wholes_loop a1 K (by omega) 52 100 (by omega) hK2 (by omega)
end Go.Proofs.YtpknepalceffgaaDoor.Pure
