/- What the reference's Whole, Decimal, Number, RealText answer, beside RefReal. -/
import Derived.Test.YtoocfodefbechaaGreatDoorRefReal
import Derived.Test.YtoocfodefbechaaGreatDoorV2
namespace Go.Proofs.YtoocfodefbechaaGreatDoor.RefReals
open Go.RowKit Go.Proofs.YtoocfodefbechaaGreatDoor.Q Go.Proofs.YtoocfodefbechaaGreatDoor.Real Go.Proofs.YtoocfodefbechaaGreatDoor.RealPure Go.Proofs.YtoocfodefbechaaGreatDoor.PureReals Go.Proofs.YtoocfodefbechaaGreatDoorW.PrintWords Go.Proofs.YtoocfodefbechaaGreatDoorW.PrintLast Go.Proofs.YtoocfodefbechaaGreatDoorW.PrintMore

theorem whole_eq (b : Nat) (hk : kindN b = 3) : oddN b * 2 ^ (powI b).toNat = wv b ∧ 0 ≤ powI b ∧ powI b ≤ 52 ∧ mant b ≠ 0 ∧ b / 2 ^ 52 % 2048 ≠ 2047 := by
  have hf : b / 2 ^ 52 % 2048 ≠ 2047 := by
    intro h; unfold kindN at hk; rw [if_pos h] at hk; split at hk <;> omega
  have hz : ¬ (b / 2 ^ 52 % 2048 = 0 ∧ b % 2 ^ 52 = 0) := by
    intro h; unfold kindN at hk; rw [if_neg hf, if_pos h] at hk; omega
  have hm : mant b ≠ 0 := by unfold mant; split <;> omega
  obtain ⟨p0, p1, p2⟩ := (real_test b hf hm).2 hk
  refine ⟨?_, p0, p1, hm, hf⟩
  have hr : 1023 ≤ b / 2 ^ 52 % 2048 ∧ b / 2 ^ 52 % 2048 ≤ 1075 := by
    unfold kindN at hk; rw [if_neg hf, if_neg hz] at hk
    split at hk
    · rename_i h; exact ⟨h.1, h.2.1⟩
    · omega
  obtain ⟨q, h1, h2, h3⟩ := ctz_parts (mant b) hm (by have := mant_lt b; omega)
  have h63 := mod63 b
  have em : mant b = b % 2 ^ 52 + 2 ^ 52 := by unfold mant; rw [if_neg (by omega)]
  have ee : expo b = ((b / 2 ^ 52 % 2048 : Nat) : Int) - 1075 := by unfold expo; rw [if_neg (by omega)]
  have ho : oddN b = 2 * q + 1 := h2
  have hpw : powI b = expo b + Lib.ctz 64 (mant b) := rfl
  unfold wv
  rw [if_neg (by omega), Nat.add_comm (2 ^ 52), ← em, ho]
  generalize Lib.ctz 64 (mant b) = c at *
  have hc : 1075 - b / 2 ^ 52 % 2048 ≤ c := by omega
  have et : (powI b).toNat = c - (1075 - b / 2 ^ 52 % 2048) := by omega
  rw [et, h1]
  generalize 1075 - b / 2 ^ 52 % 2048 = n at *
  have e6 : 2 ^ c = 2 ^ n * 2 ^ (c - n) := by rw [← Nat.pow_add]; congr 1; omega
  rw [e6, Nat.mul_assoc, Nat.mul_div_cancel_left _ (Nat.two_pow_pos n), Nat.mul_comm]

theorem sign_test (b : Nat) (hb : b < 2 ^ 64) : (((b : Int) / 9223372036854775808) == 1) = decide (b / 2 ^ 63 % 2 = 1) := by
  by_cases h : b / 2 ^ 63 % 2 = 1
  · rw [decide_eq_true h, beq_iff_eq]; omega
  · rw [decide_eq_false h, beq_eq_false_iff_ne]; omega

theorem refwhole_f (b : Nat) (hb : b < 2 ^ 64) (k : Nat) (hk : 70 ≤ k) : stoleref1_Whole.f k (b : Int) = some (if kindN b = 3 ∨ kindN b = 2 then (wholeI b, true) else (0, false)) := by
  unfold stoleref1_Whole.f
  rw [real_f b hb k (by omega)]
  simp only [Option.bind_some]
  by_cases h2 : kindN b = 2
  · have hw : wholeI b = 0 := by
      have h63 := mod63 b
      have hz : b % 2 ^ 63 = 0 := by
        unfold kindN at h2
        split at h2
        · split at h2 <;> omega
        · split at h2
          · omega
          · split at h2 <;> omega
      unfold wholeI wv
      rw [if_pos hz]; split <;> rfl
    rw [if_pos h2, if_pos (.inr h2), hw]
  · rw [if_neg h2]
    by_cases h3 : kindN b = 3
    · obtain ⟨w1, w2, w3, w4, w5⟩ := whole_eq b h3
      rw [if_pos h3, if_pos (.inl h3), split_f b hb w4 k (by omega)]
      simp only [Option.bind_some]
      have hv : wv b < 2 ^ 53 := (toInt_whole b (.inl h3)).2
      have ew : IntKind.u64.wrap (powI b) = (((powI b).toNat : Nat) : Int) := by rw [wrap_u64 _ (by omega) (by omega)]; omega
      have es : shl .u64 (oddN b : Int) (((powI b).toNat : Nat) : Int) = (wv b : Int) := by rw [shl_pow _ _ (by omega) (by omega), w1]
      have ev : wrap64 (wv b : Int) = (wv b : Int) := by unfold wrap64; omega
      have en : wrap64 (-(wv b : Int)) = -(wv b : Int) := by unfold wrap64; omega
      rw [ew, if_pos (by omega), es, ev, en, sign_test b hb]
      unfold wholeI
      by_cases hs : b / 2 ^ 63 % 2 = 1
      · rw [decide_eq_true hs, if_pos rfl, if_pos hs]
      · rw [decide_eq_false hs, if_neg (by decide), if_neg hs]
    · rw [if_neg h3, if_neg (by omega)]

/-! ### Decimal -/
def nums (l : List UInt8) : List Int := l.map fun c => (c.toNat : Int)
theorem str_nums (l : List UInt8) : strOfNums (nums l) = ⟨l.toArray⟩ := by
  unfold strOfNums nums
  congr 2
  rw [List.map_map]
  conv => rhs; rw [← List.map_id l]
  refine List.map_congr_left fun c _ => ?_
  simp

theorem dec_step (v : Nat) (hv : v < 2 ^ 64) : (IntKind.u64.wrap (48 + Int.tmod (v : Int) 10)) % 256 = ((48 + v % 10 : Nat) : Int) ∧ IntKind.u64.wrap (Int.tdiv (v : Int) 10) = ((v / 10 : Nat) : Int) := by
  have e1 : Int.tmod (v : Int) 10 = ((v % 10 : Nat) : Int) := rfl
  have e2 : Int.tdiv (v : Int) 10 = ((v / 10 : Nat) : Int) := rfl
  rw [e1, e2, wrap_u64 _ (by omega) (by omega), wrap_u64 _ (by omega) (by omega)]
  constructor
  · omega
  · rfl

theorem dec_last (v : Nat) : nums (Lib.decDigits v) = (if v < 10 then [] else nums (Lib.decDigits (v / 10))) ++ [((48 + v % 10 : Nat) : Int)] := by
  rw [Lib.decDigits]
  by_cases h : v < 10
  · rw [dif_pos h, if_pos h]
    unfold nums
    simp only [List.map_cons, List.map_nil, List.nil_append]
    rw [digit_val v h]
    congr 2; omega
  · rw [dif_neg h, if_neg h]
    unfold nums
    rw [List.map_append]
    simp only [List.map_cons, List.map_nil]
    rw [digit_val (v % 10) (by omega)]

theorem dec_loop (x : Int) : ∀ (v k : Nat) (acc : List Int), 0 < v → v < 2 ^ 64 → Lib.nDigits v < k → acc.length + Lib.nDigits v < 140737488355328 →
    stoleref0_Decimal.l0 k x (v : Int) acc = stoleref0_Decimal.l0 (k - Lib.nDigits v) x 0 (nums (Lib.decDigits v) ++ acc) := by
  intro v
  induction v using Nat.strongRecOn with
  | _ v ih =>
    intro k acc h0 hv hk hl
    obtain ⟨k, rfl⟩ : ∃ m, k = m + 1 := ⟨k - 1, by omega⟩
    obtain ⟨d1, d2⟩ := dec_step v hv
    conv => lhs; unfold stoleref0_Decimal.l0
    rw [if_pos (by omega), d1, d2]
    simp only [Option.bind_some]
    have hp := Lib.nDigits_pos v
    rw [if_pos (by simp; omega)]
    by_cases h : v < 10
    · have e : v / 10 = 0 := by omega
      rw [e, Lib.nDigits_small h, dec_last v, if_pos h]
      rfl
    · have hd := Lib.nDigits_big h
      rw [ih (v / 10) (by omega) k _ (by omega) (by omega) (by omega) (by simp; omega), hd, dec_last v, if_neg h]
      have e : k + 1 - (Lib.nDigits (v / 10) + 1) = k - Lib.nDigits (v / 10) := by omega
      rw [e, List.append_assoc]

theorem dec_end (x : Int) (hx : 0 ≤ x) (k : Nat) (acc : List Int) (ha : acc.length ≠ 0) : stoleref0_Decimal.l0 (k + 1) x 0 acc = some (strOfNums acc) := by
  simp only [stoleref0_Decimal.l0]
  rw [if_neg (by omega), if_neg (by omega), if_neg (by omega)]

theorem nDigits_20 (v : Nat) (hv : v < 2 ^ 64) : Lib.nDigits v ≤ 20 := by
  by_cases h1 : 1 ≤ v
  · have := Lib.numDigits_eq v h1 (by omega); split at this <;> omega
  · have : v = 0 := by omega
    subst this; decide +kernel

theorem decimal_f (v : Nat) (hv : v < 2 ^ 63) (k : Nat) (hk : 25 ≤ k) : stoleref0_Decimal.f k (v : Int) = some ⟨(Lib.decDigits v).toArray⟩ := by
  obtain ⟨k, rfl⟩ : ∃ m, k = m + 1 := ⟨k - 1, by omega⟩
  unfold stoleref0_Decimal.f
  rw [if_neg (by omega), wrap_u64 _ (by omega) (by omega)]
  simp only [stoleref0_Decimal.j0]
  have hd := nDigits_20 v (by omega)
  by_cases h0 : 0 < v
  · rw [dec_loop _ v k [] h0 (by omega) (by omega) (by simp; omega), List.append_nil]
    obtain ⟨m, hm⟩ : ∃ m, k - Lib.nDigits v = m + 1 := ⟨k - Lib.nDigits v - 1, by omega⟩
    have hp := Lib.nDigits_pos v
    rw [hm, dec_end _ (by omega) m _ (by unfold nums; rw [List.length_map, Lib.decDigits_length]; omega), str_nums]
  · have e : v = 0 := by omega
    subst e
    obtain ⟨k, rfl⟩ : ∃ m, k = m + 2 := ⟨k - 2, by omega⟩
    have e1 : stoleref0_Decimal.l0 (k + 2) ((0 : Nat) : Int) ((0 : Nat) : Int) [] = stoleref0_Decimal.l0 (k + 1) ((0 : Nat) : Int) 0 [48] := by
      conv => lhs; unfold stoleref0_Decimal.l0
      rw [if_neg (by omega), if_pos (by rfl)]
      rfl
    rw [e1, dec_end _ (by omega) k _ (by decide)]
    decide +kernel

theorem number_f (x : Int) (h0 : -9223372036854775807 ≤ x) (h1 : x ≤ 9223372036854775807) (k : Nat) (hk : 25 ≤ k) : stoleref1_Number.f k x = some ⟨(Lib.itoa x).toArray⟩ := by
  unfold stoleref1_Number.f
  by_cases hx : x < 0
  · obtain ⟨v, rfl⟩ : ∃ v : Nat, x = -(v : Int) := ⟨x.natAbs, by omega⟩
    have e : wrap64 (-(-(v : Int))) = (v : Int) := by unfold wrap64; omega
    rw [if_pos hx, e, decimal_f v (by omega) k hk, Lib.itoa_neg v (by omega)]
    simp only [Option.bind_some]
    have hd := nDigits_20 v (by omega)
    rw [size_mk, Lib.decDigits_length, if_pos (by omega), show (⟨#[45]⟩ : ByteArray) = ⟨[45].toArray⟩ from rfl, append_mk]
    rfl
  · obtain ⟨v, rfl⟩ : ∃ v : Nat, x = (v : Int) := ⟨x.toNat, by omega⟩
    rw [if_neg hx, decimal_f v (by omega) k hk, Lib.itoa_nonneg]
    rfl

theorem mant_ne (b : Nat) (k4 : kindN b = 4) : mant b ≠ 0 := by
  have hz : ¬ (b / 2 ^ 52 % 2048 = 0 ∧ b % 2 ^ 52 = 0) := by
    intro h; unfold kindN at k4; rw [if_neg (by omega), if_pos h] at k4; omega
  unfold mant; split <;> omega

/-! ### RealText -/
theorem text_of (b : Nat) (s : List UInt8) (hs : s = signL b) : textL b = if kindN b = 0 then [78, 97, 78]
      else if kindN b = 1 then s ++ [73, 110, 102, 105, 110, 105, 116, 121]
      else if kindN b = 2 then s ++ [48]
      else if kindN b = 3 then Lib.itoa (wholeI b)
      else s ++ Lib.decDigits (oddN b) ++ [112] ++ Lib.itoa (powI b) := by
  subst hs; rfl

theorem tail_whole (b : Nat) (hb : b < 2 ^ 64) (k : Nat) (hk : 74 ≤ k) (k3 : kindN b = 3) :
    ((stoleref1_Whole.f k (b : Int)).bind fun bt129 => ((stoleref1_Number.f k bt129.1).bind fun t131 => (some t131))) = some ⟨(Lib.itoa (wholeI b)).toArray⟩ := by
  obtain ⟨-, hv⟩ := toInt_whole b (.inl k3)
  have hr : -9007199254740992 ≤ wholeI b ∧ wholeI b ≤ 9007199254740992 := by unfold wholeI; split <;> omega
  rw [refwhole_f b hb k (by omega), if_pos (.inl k3)]
  simp only [Option.bind_some]
  rw [number_f _ (by omega) (by omega) k (by omega)]
  rfl

theorem tail_other (s Y X : List UInt8) (hs : s.length ≤ 1) (hy : Y.length ≤ 20) (hx : X.length ≤ 21) :
    (if (⟨s.toArray⟩ : ByteArray).size + (⟨Y.toArray⟩ : ByteArray).size ≤ 9223372036854775807 then (if ((⟨s.toArray⟩ : ByteArray) ++ ⟨Y.toArray⟩).size + 1 ≤ 9223372036854775807 then ((some (⟨X.toArray⟩ : ByteArray)).bind fun t136 => (if (((⟨s.toArray⟩ : ByteArray) ++ ⟨Y.toArray⟩) ++ (⟨#[112]⟩ : ByteArray)).size + t136.size ≤ 9223372036854775807 then (some ((((⟨s.toArray⟩ : ByteArray) ++ ⟨Y.toArray⟩) ++ (⟨#[112]⟩ : ByteArray)) ++ t136)) else (none))) else (none)) else (none))
      = some ⟨(s ++ Y ++ [112] ++ X).toArray⟩ := by
  have e : (⟨#[112]⟩ : ByteArray) = ⟨[112].toArray⟩ := rfl
  rw [e, append_mk, append_mk, size_mk, size_mk, size_mk, if_pos (by omega), if_pos (by rw [List.length_append]; omega)]
  simp only [Option.bind_some]
  rw [append_mk, size_mk, size_mk, if_pos (by simp only [List.length_append, List.length_cons, List.length_nil]; omega)]

theorem tail_all (k : Nat) (s Y X : List UInt8) (p : Bool × Int × Int) (y x : Int) (h1 : p.2.1 = y) (h2 : p.2.2 = x) (hD : stoleref0_Decimal.f k (wrap64 y) = some ⟨Y.toArray⟩) (hN : stoleref1_Number.f k x = some ⟨X.toArray⟩) (hs : s.length ≤ 1) (hy : Y.length ≤ 20) (hx : X.length ≤ 21) :
    ((some p).bind fun bt132 => ((stoleref0_Decimal.f k (wrap64 (bt132.2.1))).bind fun t135 => (if (⟨s.toArray⟩ : ByteArray).size + t135.size ≤ 9223372036854775807 then (if ((⟨s.toArray⟩ : ByteArray) ++ t135).size + 1 ≤ 9223372036854775807 then ((stoleref1_Number.f k bt132.2.2).bind fun t136 => (if (((⟨s.toArray⟩ : ByteArray) ++ t135) ++ (⟨#[112]⟩ : ByteArray)).size + t136.size ≤ 9223372036854775807 then (some ((((⟨s.toArray⟩ : ByteArray) ++ t135) ++ (⟨#[112]⟩ : ByteArray)) ++ t136)) else (none))) else (none)) else (none))))
      = some ⟨(s ++ Y ++ [112] ++ X).toArray⟩ := by
  rw [Option.bind_some, h1, h2, hD, Option.bind_some, hN]
  exact tail_other s Y X hs hy hx

theorem const_text (s t : List UInt8) (n : Nat) (ht : t.length = n) (hs : s.length ≤ 1) (hn : n ≤ 8) : (if (⟨s.toArray⟩ : ByteArray).size + n ≤ 9223372036854775807 then some ((⟨s.toArray⟩ : ByteArray) ++ ⟨t.toArray⟩) else none) = some ⟨(s ++ t).toArray⟩ := by
  rw [size_mk, if_pos (by omega), append_mk]

theorem reftext_s (b : Nat) (hb : b < 2 ^ 64) (k : Nat) (hk : 74 ≤ k) (s : List UInt8) (hs : s = signL b) : stoleref1_RealText.j0 (k + 1) (b : Int) ⟨s.toArray⟩ = some ⟨(textL b).toArray⟩ := by
  have sl : s.length ≤ 1 := by rw [hs]; unfold signL; split <;> simp
  simp only [stoleref1_RealText.j0]
  rw [real_f b hb k (by omega), text_of b s hs]
  simp only [Option.bind_some]
  by_cases k0 : kindN b = 0
  · rw [if_pos k0, if_pos k0]
  · rw [if_neg k0, if_neg k0]
    by_cases k1 : kindN b = 1
    · rw [if_pos k1, if_pos k1]
      exact const_text s [73, 110, 102, 105, 110, 105, 116, 121] 8 rfl sl (by omega)
    · rw [if_neg k1, if_neg k1]
      by_cases k2 : kindN b = 2
      · rw [if_pos k2, if_pos k2]
        exact const_text s [48] 1 rfl sl (by omega)
      · rw [if_neg k2, if_neg k2]
        by_cases k3 : kindN b = 3
        · rw [if_pos k3, if_pos k3]
          exact tail_whole b hb k (by omega) k3
        · rw [if_neg k3, if_neg k3]
          have k4 : kindN b = 4 := by have := kind_range b; omega
          obtain ⟨p0, p1, o1⟩ := powI_range b
          have eo : wrap64 (oddN b : Int) = (oddN b : Int) := by unfold wrap64; omega
          have l1 := nDigits_20 (oddN b) (by omega)
          have l2 := Lib.itoa_length_le (powI b) (by omega) (by omega)
          rw [split_f b hb (mant_ne b k4) k (by omega)]
          exact tail_all k s _ _ _ (oddN b : Int) (powI b) rfl rfl (by rw [eo]; exact decimal_f (oddN b) (by omega) k (by omega)) (number_f (powI b) (by omega) (by omega) k (by omega)) sl (by rw [Lib.decDigits_length]; exact l1) l2

theorem reftext_f (b : Nat) (hb : b < 2 ^ 64) (k : Nat) (hk : 75 ≤ k) : stoleref1_RealText.f k (b : Int) = some ⟨(textL b).toArray⟩ := by
  obtain ⟨k, rfl⟩ : ∃ m, k = m + 1 := ⟨k - 1, by omega⟩
  unfold stoleref1_RealText.f
  by_cases h : b / 2 ^ 63 % 2 = 1
  · rw [if_pos (by omega)]
    exact reftext_s b hb k (by omega) [45] (by unfold signL; rw [if_pos h])
  · rw [if_neg (by omega)]
    exact reftext_s b hb k (by omega) [] (by unfold signL; rw [if_neg h])
end Go.Proofs.YtoocfodefbechaaGreatDoor.RefReals
