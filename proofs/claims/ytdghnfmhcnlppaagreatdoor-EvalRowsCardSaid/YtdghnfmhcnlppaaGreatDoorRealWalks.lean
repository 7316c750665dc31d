/- The contracts of package real's functions Kind and Whole over this seat's program: what they answer, as plain functions of the word. -/
import Derived.Test.YtdghnfmhcnlppaaGreatDoorProg
import Derived.Test.YtdghnfmhcnlppaaGreatDoorRealPure
import Derived.Test.YtdghnfmhcnlppaaGreatDoorWAll
import Derived.WalkKit
import Derived.WalkLawsBesides
import Derived.WalkSpells
import Derived.Laws.Externs
import Derived.Laws.FloatArith
import Derived.Lib.Hide
namespace Go.Proofs.YtdghnfmhcnlppaaGreatDoor.Real
open Go.RowKit Go.Proofs.YtdghnfmhcnlppaaGreatDoor.RealPure Go.Proofs.YtdghnfmhcnlppaaGreatDoorW.PrintWords
set_option linter.unusedSimpArgs false

theorem frombits (n : Int) (W : World) : (callFunc 83 #[.int .u64 n]).run Tryz.prog W = .ok (.value (.float .f64 n.toNat)) W := by
  rw [run_callFunc_extern (e := Go.Extern.MathFloatBits.float64frombits) Tryz.func83 (by kernel_rfl) (by kernel_rfl) (by kernel_rfl) (by kernel_rfl) #[.int .u64 n] W]
  rfl
theorem tobits (b : Nat) (W : World) : (callFunc 114 #[.float .f64 b]).run Tryz.prog W = .ok (.value (.int .u64 b)) W := by
  rw [run_callFunc_extern (e := Go.Extern.MathFloatBits.float64bits) Tryz.func114 (by kernel_rfl) (by kernel_rfl) (by kernel_rfl) (by kernel_rfl) #[.float .f64 b] W]
  rfl
theorem archtrunc (b : Nat) (W : World) (hb : b % 2 ^ 63 ≤ 0x7ff0000000000000) : (callFunc 115 #[.float .f64 b]).run Tryz.prog W = .ok (.value (.float .f64 (Ieee.double.write ((Ieee.double.read b).integral .zero)))) W := by
  rw [run_callFunc_extern (e := Go.Extern.MathFloor.toIntegral "math.archTrunc" .zero) Tryz.func115 (by kernel_rfl) (by kernel_rfl) (by kernel_rfl) (by kernel_rfl) #[.float .f64 b] W]
  have hd : FloatKind.f64.decode b = Ieee.double.read b := rfl
  show (Sem.run _ (Go.Extern.MathFloor.toIntegral.match_1 (motive := fun _ => Sem Value) (FloatKind.f64.decode b) (fun s t => _) (fun d => _)) W).andThen _ = _
  by_cases h : b % 2 ^ 63 = 0x7ff0000000000000
  · rw [hd, read_inf b h]
    rfl
  · obtain ⟨m, p, e, -, -⟩ := read_fin b (by omega)
    rw [hd, e]
    rfl

set_option maxRecDepth 100000 in
theorem abs_calls (b : Nat) (hb : b < 2 ^ 64) (w : World) : Calls Tryz.prog 103 #[.float .f64 b] w fun e w' => e = .returned (.float .f64 (b % 2 ^ 63)) ∧ w' = w := by
  have e1 := frombits
  have e2 := tobits
  go_enter Tryz.func103, Tryz.ntmps103
  go_wp2
  go_ret
  have e3 : (bits BinOp.andNot IntKind.u64 (b : Int) 9223372036854775808).toNat = b % 2 ^ 63 := by
    rw [show (9223372036854775808 : Int) = ((9223372036854775808 : Nat) : Int) from rfl, u64_andNot_nat b 9223372036854775808 hb (by decide), Int.toNat_natCast]
    exact Nat.and_two_pow_sub_one_eq_mod b 63
  refine ⟨?_, rfl⟩
  show Ending.returned (Value.float FloatKind.f64 (bits BinOp.andNot IntKind.u64 (b : Int) 9223372036854775808).toNat) = _
  rw [e3]

theorem same_self (b : Nat) : (FloatKind.f64.format.order b b != some .eq) = nanB b := by
  show (Ieee.double.order b b != some .eq) = nanB b
  rw [order_words]
  cases nanB b
  · simp only [Bool.or_self, Bool.false_eq_true, if_false]
    rw [cmp_eq rfl]; rfl
  · rfl

theorem isnan_calls (b : Nat) (w : World) : Calls Tryz.prog 101 #[.float .f64 b] w fun e w' => e = .returned (.bool (nanB b)) ∧ w' = w := by
  go_enter Tryz.func101, Tryz.ntmps101
  go_wp2
  go_ret
  refine ⟨?_, rfl⟩
  show Ending.returned (Value.bool (FloatKind.f64.format.order b b != some .eq)) = _
  rw [same_self]

theorem above_max (b : Nat) (hn : nanB b = false) : (FloatKind.f64.format.order (b % 2 ^ 63) 9218868437227405311 == some .gt) = decide (b % 2 ^ 63 = 0x7ff0000000000000) := by
  show (Ieee.double.order (b % 2 ^ 63) 9218868437227405311 == some .gt) = _
  have hb : b % 2 ^ 63 ≤ 0x7ff0000000000000 := by unfold nanB at hn; have := of_decide_eq_false hn; omega
  rw [order_words]
  have n1 : nanB (b % 2 ^ 63) = false := by unfold nanB; exact decide_eq_false (by omega)
  have n2 : nanB 9218868437227405311 = false := by unfold nanB; exact decide_eq_false (by omega)
  have p1 : place (b % 2 ^ 63) = ((b % 2 ^ 63 : Nat) : Int) := by unfold place; rw [if_neg (by omega)]; congr 1; omega
  have p2 : place 9218868437227405311 = 9218868437227405311 := by unfold place; rw [if_neg (by omega)]; omega
  rw [n1, n2, p1, p2]
  simp only [Bool.or_self, Bool.false_eq_true, if_false]
  by_cases h : b % 2 ^ 63 = 0x7ff0000000000000
  · rw [decide_eq_true h, cmp_gt (by omega)]; rfl
  · rw [decide_eq_false h]
    by_cases h2 : b % 2 ^ 63 = 9218868437227405311
    · rw [cmp_eq (by omega)]; rfl
    · rw [cmp_lt (by omega)]; rfl

set_option maxRecDepth 100000 in
set_option maxRecDepth 100000 in
theorem isinf_calls (b : Nat) (hb : b < 2 ^ 64) (hn : nanB b = false) (w : World) : Calls Tryz.prog 102 #[.float .f64 b, .int .i64 0] w fun e w' => e = .returned (.bool (decide (b % 2 ^ 63 = 0x7ff0000000000000))) ∧ w' = w := by
  have HM := Lib.hid (above_max b hn)
  go_enter Tryz.func102, Tryz.ntmps102
  go_wp2_with (go_at_call 103; refine (abs_calls b hb _).mono ?_; rintro e w' ⟨rfl, rfl⟩)
  go_ret
  refine ⟨?_, rfl⟩
  show Ending.returned (Value.bool (FloatKind.f64.format.order (b % 2 ^ 63) 9218868437227405311 == some .gt)) = _
  rw [HM.out]

set_option maxRecDepth 100000 in
theorem trunc_calls (b : Nat) (hb : b % 2 ^ 63 ≤ 0x7ff0000000000000) (w : World) : Calls Tryz.prog 104 #[.float .f64 b] w fun e w' => e = .returned (.float .f64 (Ieee.double.write ((Ieee.double.read b).integral .zero))) ∧ w' = w := by
  have e1 := archtrunc b w hb
  generalize hq : Ieee.double.write ((Ieee.double.read b).integral .zero) = q at e1 ⊢
  clear hq
  go_enter Tryz.func104, Tryz.ntmps104
  go_wp2
  go_ret
  exact ⟨rfl, rfl⟩

theorem is_zero (b : Nat) (hn : nanB b = false) : (FloatKind.f64.format.order b 0 == some .eq) = decide (b % 2 ^ 63 = 0) := by
  show (Ieee.double.order b 0 == some .eq) = _
  rw [order_words, hn]
  have n2 : nanB 0 = false := rfl
  have p2 : place 0 = 0 := rfl
  rw [n2, p2, place_sign]
  simp only [Bool.or_self, Bool.false_eq_true, if_false]
  by_cases h : b % 2 ^ 63 = 0
  · rw [decide_eq_true h, h]
    rw [cmp_eq (by split <;> rfl)]; rfl
  · rw [decide_eq_false h]
    cases decide (b / 2 ^ 63 % 2 = 1)
    · simp only [Bool.false_eq_true, if_false]; rw [cmp_gt (by omega)]; rfl
    · simp only [if_true]; rw [cmp_lt (by omega)]; rfl

theorem not_above (b : Nat) (hb : b % 2 ^ 63 ≤ 0x7ff0000000000000) : (FloatKind.f64.format.order (b % 2 ^ 63) 4845873199050653695 == some .lt || FloatKind.f64.format.order (b % 2 ^ 63) 4845873199050653695 == some .eq) = decide (b % 2 ^ 63 ≤ 4845873199050653695) := by
  show (Ieee.double.order (b % 2 ^ 63) 4845873199050653695 == some .lt || Ieee.double.order (b % 2 ^ 63) 4845873199050653695 == some .eq) = _
  rw [order_words]
  have n1 : nanB (b % 2 ^ 63) = false := by unfold nanB; exact decide_eq_false (by omega)
  have n2 : nanB 4845873199050653695 = false := by unfold nanB; exact decide_eq_false (by omega)
  have p1 : place (b % 2 ^ 63) = ((b % 2 ^ 63 : Nat) : Int) := by unfold place; rw [if_neg (by omega)]; congr 1; omega
  have p2 : place 4845873199050653695 = 4845873199050653695 := by unfold place; rw [if_neg (by omega)]; omega
  rw [n1, n2, p1, p2]
  simp only [Bool.or_self, Bool.false_eq_true, if_false]
  by_cases h : b % 2 ^ 63 ≤ 4845873199050653695
  · rw [decide_eq_true h]
    by_cases h2 : b % 2 ^ 63 = 4845873199050653695
    · rw [cmp_eq (by omega)]; rfl
    · rw [cmp_lt (by omega)]; rfl
  · rw [decide_eq_false h, cmp_gt (by omega)]; rfl

theorem kind_cases (b : Nat) :
    kindN b = if nanB b then 0 else if b % 2 ^ 63 = 0x7ff0000000000000 then 1 else if b % 2 ^ 63 = 0 then 2 else if b % 2 ^ 63 ≤ 4845873199050653695 ∧ mg (b % 2 ^ 63) % U = 0 then 3 else 4 := by
  have h63 := mod63 b
  unfold kindN nanB
  by_cases h1 : b / 2 ^ 52 % 2048 = 2047
  · rw [if_pos h1]
    by_cases h2 : b % 2 ^ 52 = 0
    · rw [if_pos h2, if_neg (by simp only [decide_eq_true_eq]; omega), if_pos (by omega)]
    · rw [if_neg h2, if_pos (by simp only [decide_eq_true_eq]; omega)]
  · rw [if_neg h1, if_neg (c := decide (0x7ff0000000000000 < b % 2 ^ 63) = true) (by simp only [decide_eq_true_eq]; omega), if_neg (c := b % 2 ^ 63 = 0x7ff0000000000000) (by omega)]
    by_cases h2 : b / 2 ^ 52 % 2048 = 0 ∧ b % 2 ^ 52 = 0
    · rw [if_pos h2, if_pos (by omega)]
    · rw [if_neg h2, if_neg (c := b % 2 ^ 63 = 0) (by omega)]
      by_cases h3 : b % 2 ^ 63 ≤ 4845873199050653695
      · have hw := whole_iff b h3 (by omega)
        by_cases h4 : mg (b % 2 ^ 63) % U = 0
        · rw [if_pos (c := b % 2 ^ 63 ≤ 4845873199050653695 ∧ mg (b % 2 ^ 63) % U = 0) ⟨h3, h4⟩, if_pos ⟨(hw.1 h4).1, by omega, (hw.1 h4).2⟩]
        · rw [if_neg (c := b % 2 ^ 63 ≤ 4845873199050653695 ∧ mg (b % 2 ^ 63) % U = 0) (fun c => h4 c.2), if_neg (fun c => h4 (hw.2 ⟨c.1, c.2.2⟩))]
      · rw [if_neg (c := b % 2 ^ 63 ≤ 4845873199050653695 ∧ mg (b % 2 ^ 63) % U = 0) (fun c => h3 c.1), if_neg (by omega)]

set_option maxRecDepth 100000 in
/-- real.Kind, at every word. -/
theorem kind_any (b : Nat) (hb : b < 2 ^ 64) (w : World) : Calls Tryz.prog 84 #[.int .u64 b] w fun e w' => e = .returned (.int .i64 (kindN b)) ∧ w' = w := by
  have e1 := frombits b
  rw [Int.toNat_natCast] at e1
  have hk := kind_cases b
  by_cases hn : nanB b = true
  · rw [if_pos hn] at hk
    rw [hk]; clear hk
    go_enter Tryz.func84, Tryz.ntmps84
    go_wp2_with (go_at_call 101; refine (isnan_calls b _).mono ?_; rintro e w' ⟨rfl, rfl⟩)
    go_ret
    exact ⟨rfl, rfl⟩
  · replace hn : nanB b = false := by simpa using hn
    have hb63 : b % 2 ^ 63 ≤ 0x7ff0000000000000 := by unfold nanB at hn; have := of_decide_eq_false hn; omega
    rw [if_neg (by rw [hn]; decide)] at hk
    by_cases hi : b % 2 ^ 63 = 0x7ff0000000000000
    · rw [if_pos hi] at hk
      rw [hk]; clear hk
      have hd := decide_eq_true hi
      have CI := isinf_calls b hb hn w
      rw [hd] at CI
      clear hi hd hb63
      have CI' := Lib.hid CI; clear CI
      go_enter Tryz.func84, Tryz.ntmps84
      go_wp2_with (first | (go_at_call 101; refine (isnan_calls b _).mono ?_; rintro e w' ⟨rfl, rfl⟩) | (go_at_call 102; refine CI'.out.mono ?_; rintro e w' ⟨rfl, rfl⟩))
      go_ret
      exact ⟨rfl, rfl⟩
    · rw [if_neg hi] at hk
      have hd := decide_eq_false hi
      have CI := isinf_calls b hb hn w
      rw [hd] at CI
      have CI' := Lib.hid CI; clear CI hd
      have hz := is_zero b hn
      by_cases h0 : b % 2 ^ 63 = 0
      · rw [if_pos h0] at hk
        rw [hk]; clear hk
        rw [decide_eq_true h0] at hz
        clear hi h0 hb63
        go_enter Tryz.func84, Tryz.ntmps84
        go_wp2_with (first | (go_at_call 101; refine (isnan_calls b _).mono ?_; rintro e w' ⟨rfl, rfl⟩) | (go_at_call 102; refine CI'.out.mono ?_; rintro e w' ⟨rfl, rfl⟩))
        go_ret
        exact ⟨rfl, rfl⟩
      · rw [if_neg h0] at hk
        rw [decide_eq_false h0] at hz
        have ha := not_above b hb63
        by_cases h3 : b % 2 ^ 63 ≤ 4845873199050653695
        · rw [decide_eq_true h3] at ha
          have ht := trunc_same b h3
          have CT := trunc_calls b hb63 w
          generalize hq : Ieee.double.write ((Ieee.double.read b).integral .zero) = q at ht CT
          replace ht : (FloatKind.f64.format.order q b == some .eq) = decide (mg (b % 2 ^ 63) % U = 0) := ht
          have CT' := Lib.hid CT; clear CT hq
          by_cases h4 : mg (b % 2 ^ 63) % U = 0
          · rw [if_pos ⟨h3, h4⟩] at hk
            rw [hk]; clear hk
            rw [decide_eq_true h4] at ht
            clear hi h0 hb63 h3 h4
            go_enter Tryz.func84, Tryz.ntmps84
            go_wp2_with (first | (go_at_call 101; refine (isnan_calls b _).mono ?_; rintro e w' ⟨rfl, rfl⟩) | (go_at_call 102; refine CI'.out.mono ?_; rintro e w' ⟨rfl, rfl⟩) | (go_at_call 103; refine (abs_calls b hb _).mono ?_; rintro e w' ⟨rfl, rfl⟩) | (go_at_call 104; refine CT'.out.mono ?_; rintro e w' ⟨rfl, rfl⟩))
            go_ret
            exact ⟨rfl, rfl⟩
          · rw [if_neg (fun c => h4 c.2)] at hk
            rw [hk]; clear hk
            rw [decide_eq_false h4] at ht
            clear hi h0 hb63 h3 h4
            go_enter Tryz.func84, Tryz.ntmps84
            go_wp2_with (first | (go_at_call 101; refine (isnan_calls b _).mono ?_; rintro e w' ⟨rfl, rfl⟩) | (go_at_call 102; refine CI'.out.mono ?_; rintro e w' ⟨rfl, rfl⟩) | (go_at_call 103; refine (abs_calls b hb _).mono ?_; rintro e w' ⟨rfl, rfl⟩) | (go_at_call 104; refine CT'.out.mono ?_; rintro e w' ⟨rfl, rfl⟩))
            go_ret
            exact ⟨rfl, rfl⟩
        · rw [decide_eq_false h3] at ha
          rw [if_neg (fun c => h3 c.1)] at hk
          rw [hk]; clear hk
          clear hi h0 hb63 h3
          go_enter Tryz.func84, Tryz.ntmps84
          go_wp2_with (first | (go_at_call 101; refine (isnan_calls b _).mono ?_; rintro e w' ⟨rfl, rfl⟩) | (go_at_call 102; refine CI'.out.mono ?_; rintro e w' ⟨rfl, rfl⟩) | (go_at_call 103; refine (abs_calls b hb _).mono ?_; rintro e w' ⟨rfl, rfl⟩))
          go_ret
          exact ⟨rfl, rfl⟩
end Go.Proofs.YtdghnfmhcnlppaaGreatDoor.Real
