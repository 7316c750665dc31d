/- What the reference's function Decimal answers (a part of XRefReals). -/
import Derived.Test.YtepolmajebdphaaDoorRealLemmas
import Derived.Test.YtepolmajebdphaaDoorQ4
namespace Go.Proofs.YtepolmajebdphaaDoor.RefReals
set_option linter.unusedSimpArgs false
set_option linter.unusedVariables false
open Go.RowKit Go.Proofs.YtepolmajebdphaaDoor.Q Go.Proofs.YtepolmajebdphaaDoor.Real Go.Proofs.YtepolmajebdphaaDoor.RealPure Go.Proofs.YtepolmajebdphaaDoor.PureReals Go.Proofs.YtepolmajebdphaaDoorW.PrintWords Go.Proofs.YtepolmajebdphaaDoorW.PrintLast Go.Proofs.YtepolmajebdphaaDoorW.PrintMore

/-! ### Decimal -/
def nums (l : List UInt8) : List Int := l.map fun c => (c.toNat : Int)
theorem str_nums (l : List UInt8) : strOfNums (nums l) = ⟨l.toArray⟩ := by
  unfold strOfNums nums
  congr 2
  rw [List.map_map]
  conv => rhs; rw [← List.map_id l]
  refine List.map_congr_left fun c _ => ?_
  simp

theorem dec_step (v : Nat) (hv : v < 2 ^ 64) : (IntKind.u64.wrap (48 + Int.tmod (v : Int) 10)) % 256 = ((48 + v % 10 : Nat) : Int) ∧ IntKind.u64.wrap (Int.tdiv (v : Int) 10) = ((v / 10 : Nat) : Int) := by
  have e1 : Int.tmod (v : Int) 10 = ((v % 10 : Nat) : Int) := rfl
  have e2 : Int.tdiv (v : Int) 10 = ((v / 10 : Nat) : Int) := rfl
  rw [e1, e2, wrap_u64 _ (by omega) (by omega), wrap_u64 _ (by omega) (by omega)]
  constructor
  · omega
  · rfl

theorem dec_last (v : Nat) : nums (Lib.decDigits v) = (if v < 10 then [] else nums (Lib.decDigits (v / 10))) ++ [((48 + v % 10 : Nat) : Int)] := by
  rw [Lib.decDigits]
  by_cases h : v < 10
  · rw [dif_pos h, if_pos h]
    unfold nums
    simp only [List.map_cons, List.map_nil, List.nil_append]
    rw [digit_val v h]
    congr 2; omega
  · rw [dif_neg h, if_neg h]
    unfold nums
    rw [List.map_append]
    simp only [List.map_cons, List.map_nil]
    rw [digit_val (v % 10) (by omega)]

/-- The loop ahead of some digits, a number above 0 being left. -/
theorem dec_loop (x : Int) : ∀ (v k : Nat) (acc : List Int), 0 < v → v < 2 ^ 64 → Lib.nDigits v < k → acc.length + Lib.nDigits v < 140737488355328 →
    stoleref0_Decimal.l0 k x (v : Int) acc = stoleref0_Decimal.l0 (k - Lib.nDigits v) x 0 (nums (Lib.decDigits v) ++ acc) := by
  intro v
  induction v using Nat.strongRecOn with
  | _ v ih =>
    intro k acc h0 hv hk hl
    obtain ⟨k, rfl⟩ : ∃ m, k = m + 1 := ⟨k - 1, by omega⟩
    obtain ⟨d1, d2⟩ := dec_step v hv
    conv => lhs; unfold stoleref0_Decimal.l0
    rw [if_pos (by omega), d1, d2]
    simp only [Option.bind_some]
    have hp := Lib.nDigits_pos v
    rw [if_pos (by simp; omega)]
    by_cases h : v < 10
    · have e : v / 10 = 0 := by omega
      rw [e, Lib.nDigits_small h, dec_last v, if_pos h]
      rfl
    · have hd := Lib.nDigits_big h
      rw [ih (v / 10) (by omega) k _ (by omega) (by omega) (by omega) (by simp; omega), hd, dec_last v, if_neg h]
      have e : k + 1 - (Lib.nDigits (v / 10) + 1) = k - Lib.nDigits (v / 10) := by omega
      rw [e, List.append_assoc]

theorem dec_end (x : Int) (hx : 0 ≤ x) (k : Nat) (acc : List Int) (ha : acc.length ≠ 0) : stoleref0_Decimal.l0 (k + 1) x 0 acc = some (strOfNums acc) := by
  simp only [stoleref0_Decimal.l0]
  rw [if_neg (by omega), if_neg (by omega), if_neg (by omega)]

theorem nDigits_20 (v : Nat) (hv : v < 2 ^ 64) : Lib.nDigits v ≤ 20 := by
  by_cases h1 : 1 ≤ v
  · have := Lib.numDigits_eq v h1 (by omega); split at this <;> omega
  · have : v = 0 := by omega
    subst this; decide +kernel

/-- A number's digits. -/
theorem decimal_f (v : Nat) (hv : v < 2 ^ 63) (k : Nat) (hk : 25 ≤ k) : stoleref0_Decimal.f k (v : Int) = some ⟨(Lib.decDigits v).toArray⟩ := by
  obtain ⟨k, rfl⟩ : ∃ m, k = m + 1 := ⟨k - 1, by omega⟩
  unfold stoleref0_Decimal.f
  rw [if_neg (by omega), wrap_u64 _ (by omega) (by omega)]
  simp only [stoleref0_Decimal.j0]
  have hd := nDigits_20 v (by omega)
  by_cases h0 : 0 < v
  · rw [dec_loop _ v k [] h0 (by omega) (by omega) (by simp; omega), List.append_nil]
    obtain ⟨m, hm⟩ : ∃ m, k - Lib.nDigits v = m + 1 := ⟨k - Lib.nDigits v - 1, by omega⟩
    have hp := Lib.nDigits_pos v
    rw [hm, dec_end _ (by omega) m _ (by unfold nums; rw [List.length_map, Lib.decDigits_length]; omega), str_nums]
  · have e : v = 0 := by omega
    subst e
    obtain ⟨k, rfl⟩ : ∃ m, k = m + 2 := ⟨k - 2, by omega⟩
    have e1 : stoleref0_Decimal.l0 (k + 2) ((0 : Nat) : Int) ((0 : Nat) : Int) [] = stoleref0_Decimal.l0 (k + 1) ((0 : Nat) : Int) 0 [48] := by
      conv => lhs; unfold stoleref0_Decimal.l0
      rw [if_neg (by omega), if_pos (by rfl)]
      rfl
    rw [e1, dec_end _ (by omega) k _ (by decide)]
    decide +kernel

end Go.Proofs.YtepolmajebdphaaDoor.RefReals
