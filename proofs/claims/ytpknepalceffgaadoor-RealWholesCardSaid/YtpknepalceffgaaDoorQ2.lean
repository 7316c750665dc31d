-- By splice.py, a program of this session's, over the kit's print: a text of this seat's own.
import Derived.Test.YtpknepalceffgaaDoorQ0
import Derived.Test.YtpknepalceffgaaDoorQ1
import Derived.Test.YtpknepalceffgaaDoorRealText
namespace Go.Proofs.YtpknepalceffgaaDoor.Q
open Go.Proofs.YtpknepalceffgaaDoor.Real
open Go.RowKit Go.Proofs.YtpknepalceffgaaDoorW.PrintWords Go.Proofs.YtpknepalceffgaaDoorW.PrintLast Go.Proofs.YtpknepalceffgaaDoorW.PrintMore
attribute [local go_sem] max2_int min2_int max_two min_two max_three min_three max_four min_four   -- for this text's walks alone
set_option linter.unusedVariables false
set_option linter.unusedSimpArgs false

/-! ### stoleref1_RealText: function 13 -/
def stoleref1_RealText.j0 : Nat → Int → ByteArray → Option (ByteArray)
  | 0, _, _ => none
  | k + 1, x0, x3 => (stoleref1_Real.f k x0).bind fun t128 => (if t128 = 0 then (some (⟨#[78, 97, 78]⟩ : ByteArray)) else (if t128 = 1 then (if x3.size + 8 ≤ 9223372036854775807 then (some (x3 ++ (⟨#[73, 110, 102, 105, 110, 105, 116, 121]⟩ : ByteArray))) else (none)) else (if t128 = 2 then (if x3.size + 1 ≤ 9223372036854775807 then (some (x3 ++ (⟨#[48]⟩ : ByteArray))) else (none)) else (if t128 = 3 then ((stoleref1_Whole.f k x0).bind fun bt129 => ((stoleref1_Number.f k bt129.1).bind fun t131 => (some t131))) else ((stoleref1_Split.f k x0).bind fun bt132 => ((stoleref0_Decimal.f k (wrap64 (bt132.2.1))).bind fun t135 => (if x3.size + t135.size ≤ 9223372036854775807 then (if (x3 ++ t135).size + 1 ≤ 9223372036854775807 then ((stoleref1_Number.f k bt132.2.2).bind fun t136 => (if ((x3 ++ t135) ++ (⟨#[112]⟩ : ByteArray)).size + t136.size ≤ 9223372036854775807 then (some (((x3 ++ t135) ++ (⟨#[112]⟩ : ByteArray)) ++ t136)) else (none))) else (none)) else (none))))))))
def stoleref1_RealText.f (k : Nat) (a0 : Int) : Option (ByteArray) := if (a0 / 9223372036854775808) = 1 then (stoleref1_RealText.j0 k a0 (⟨#[45]⟩ : ByteArray)) else (stoleref1_RealText.j0 k a0 (⟨#[]⟩ : ByteArray))
theorem stoleref1_RealText.mono_l : ∀ k, (∀ y0 y1, LeO (stoleref1_RealText.j0 k y0 y1) (stoleref1_RealText.j0 (k + 1) y0 y1))
  | 0 => fun _ _ r h => by simp [stoleref1_RealText.j0] at h
  | k + 1 => by
    have ih0 := stoleref1_RealText.mono_l k
    · intro y0 y1
      unfold stoleref1_RealText.j0
      repeat' first
      | (with_reducible exact ih0 _ _)
      | (with_reducible exact stoleref0_Decimal.mono _ _)
      | (with_reducible exact stoleref1_Number.mono _ _)
      | (with_reducible exact stoleref1_Real.mono _ _)
      | (with_reducible exact stoleref1_Split.mono _ _)
      | (with_reducible exact stoleref1_Whole.mono _ _)
      | (with_reducible exact LeO.refl _)
      | (with_reducible exact LeO.none _)
      | (with_reducible refine LeO.ite ?_ ?_)
      | (with_reducible refine LeO.bind ?_ (fun _ => ?_))
      | exact ih0 _ _
      | exact stoleref0_Decimal.mono _ _
      | exact stoleref1_Number.mono _ _
      | exact stoleref1_Real.mono _ _
      | exact stoleref1_Split.mono _ _
      | exact stoleref1_Whole.mono _ _
      | exact LeO.none _
      | refine LeO.ite ?_ ?_
      | refine LeO.bind ?_ (fun _ => ?_)
theorem stoleref1_RealText.mono : ∀ a0 k, LeO (stoleref1_RealText.f k a0) (stoleref1_RealText.f (k + 1) a0) := by
  intro a0 k
  have ih0 := stoleref1_RealText.mono_l k
  unfold stoleref1_RealText.f
  repeat' first
      | (with_reducible exact ih0 _ _)
      | (with_reducible exact stoleref0_Decimal.mono _ _)
      | (with_reducible exact stoleref1_Number.mono _ _)
      | (with_reducible exact stoleref1_Real.mono _ _)
      | (with_reducible exact stoleref1_Split.mono _ _)
      | (with_reducible exact stoleref1_Whole.mono _ _)
      | (with_reducible exact LeO.refl _)
      | (with_reducible exact LeO.none _)
      | (with_reducible refine LeO.ite ?_ ?_)
      | (with_reducible refine LeO.bind ?_ (fun _ => ?_))
      | exact ih0 _ _
      | exact stoleref0_Decimal.mono _ _
      | exact stoleref1_Number.mono _ _
      | exact stoleref1_Real.mono _ _
      | exact stoleref1_Split.mono _ _
      | exact stoleref1_Whole.mono _ _
      | exact LeO.none _
      | refine LeO.ite ?_ ?_
      | refine LeO.bind ?_ (fun _ => ?_)
set_option maxHeartbeats 8000000 in
set_option maxRecDepth 100000 in
theorem stoleref1_RealText.calls (k : Nat) (a0 : Int) (r : ByteArray) (w : World) (h : stoleref1_RealText.f k a0 = some r) :
    Calls Tryd.prog 13 #[.int .u64 a0] w fun e w' => e = .returned (.string r) ∧ Below w.heap.size w w' := by
  have HB := Aside0.mk (Below.refl w.heap.size w)
  have H : (if (a0 / 9223372036854775808) = 1 then (stoleref1_RealText.j0 k a0 (⟨#[45]⟩ : ByteArray)) else (stoleref1_RealText.j0 k a0 (⟨#[]⟩ : ByteArray))) = some r := h
  clear h
  have HC2 := Aside0.mk H
  clear H
  go_enter Tryd.func13, Tryd.ntmps13
  go_upto_if 11 with (fail)
  go_cut [3] (fun v3 wc => ∃ (kq : Nat) (x3_1 : ByteArray), v3 = .string x3_1 ∧ Aside0 (stoleref1_RealText.j0 kq a0 x3_1 = some r) ∧ Aside0 (kq ≤ k) ∧ Aside0 (Below w.heap.size w wc))
  case first =>
    have H := HC2.out
    clear HC2
    by_cases c3 : (a0 / 9223372036854775808) = 1
    · rw [if_pos c3] at H
      have c3b0 : ((a0 / 9223372036854775808) == 1) = true := beq_iff_eq.mpr c3
      have c3b1 : ((a0 / 9223372036854775808) != 1) = false := bne_eq_false_iff_eq.mpr c3
      clear c3
      (first | rw [c3b0] | (simp only [i64_w, i32_w]; rw [c3b0]) | skip)
      have H' := Aside0.mk H
      clear H
      go_wp2
      go_meet
      case rel => exact ⟨_, ((⟨#[45]⟩ : ByteArray)), (by first | rfl | (simp; done) | (simp [*]; done)), H', ⟨by first | omega | exact Nat.le_refl _⟩, ⟨by repeat (first | (with_reducible first | exact HB.out | apply below_alloc | apply pw_below_drewN | apply below_drew1) | exact HB.out)⟩⟩
    · rw [if_neg c3] at H
      have c3b0 : ((a0 / 9223372036854775808) == 1) = false := beq_eq_false_iff_ne.mpr c3
      have c3b1 : ((a0 / 9223372036854775808) != 1) = true := bne_iff_ne.mpr c3
      (first | rw [c3b0] | (simp only [i64_w, i32_w]; rw [c3b0]) | skip)
      have H' := Aside0.mk H
      clear H
      go_wp2
      go_meet
      case rel => exact ⟨_, ((⟨#[]⟩ : ByteArray)), (by first | rfl | (simp; done) | (simp [*]; done)), H', ⟨by first | omega | exact Nat.le_refl _⟩, ⟨by repeat (first | (with_reducible first | exact HB.out | apply below_alloc | apply pw_below_drewN | apply below_drew1) | exact HB.out)⟩⟩
  case rest =>
    clear HC2
    try clear c1
    try clear p2
    try clear c3
    try clear c3b0
    try clear c3b1
    obtain ⟨kq, x3_1, rfl, HA, HJ1, HB⟩ := hcut
    cases kq with
    | zero => exact absurd HA.out (by simp [stoleref1_RealText.j0])
    | succ kj1 =>
      have H := HA.out
      clear HA
      simp only [stoleref1_RealText.j0] at H
      replace H := Option.bind_eq_some_iff.mp H
      obtain ⟨t128, A40, H⟩ := H
      replace H : (if t128 = 0 then (some (⟨#[78, 97, 78]⟩ : ByteArray)) else (if t128 = 1 then (if x3_1.size + 8 ≤ 9223372036854775807 then (some (x3_1 ++ (⟨#[73, 110, 102, 105, 110, 105, 116, 121]⟩ : ByteArray))) else (none)) else (if t128 = 2 then (if x3_1.size + 1 ≤ 9223372036854775807 then (some (x3_1 ++ (⟨#[48]⟩ : ByteArray))) else (none)) else (if t128 = 3 then ((stoleref1_Whole.f kj1 a0).bind fun bt129 => ((stoleref1_Number.f kj1 bt129.1).bind fun t131 => (some t131))) else ((stoleref1_Split.f kj1 a0).bind fun bt132 => ((stoleref0_Decimal.f kj1 (wrap64 (bt132.2.1))).bind fun t135 => (if x3_1.size + t135.size ≤ 9223372036854775807 then (if (x3_1 ++ t135).size + 1 ≤ 9223372036854775807 then ((stoleref1_Number.f kj1 bt132.2.2).bind fun t136 => (if ((x3_1 ++ t135) ++ (⟨#[112]⟩ : ByteArray)).size + t136.size ≤ 9223372036854775807 then (some (((x3_1 ++ t135) ++ (⟨#[112]⟩ : ByteArray)) ++ t136)) else (none))) else (none)) else (none)))))))) = some r := H
      have A4 := Aside0.mk A40
      clear A40
      by_cases c5 : t128 = 0
      · rw [if_pos c5] at H
        have c5b0 : (t128 == 0) = true := beq_iff_eq.mpr c5
        have c5b1 : (t128 != 0) = false := bne_eq_false_iff_eq.mpr c5
        clear c5
        obtain rfl := Option.some.inj H
        go_wp2_with (first | ((with_reducible refine gate_callee (f := 11) rfl ?_); refine goesL_ (some 13) rfl rfl Tryd.func11 (by kernel_rfl) rfl #[.int .u64 a0] rfl (by (try simp only [List.map_toArray, List.map_cons, List.map_nil]); first | done | rfl | (simp only [List.length_drop, List.length_take]; rfl)) ?_; (with_reducible refine (stoleref1_Real.calls kj1 a0 t128 _ A4.out).mono ?_); rintro e w' ⟨rfl, ⟨nd, rfl⟩⟩; refine ⟨_, rfl, ?_⟩))
        go_ret
        exact ⟨by first | rfl | (simp [errW_none, errW_some] <;> rfl) | (simp [*, errW_none, errW_some] <;> rfl), by repeat (first | (with_reducible first | exact HB.out | apply below_alloc | apply pw_below_drewN | apply below_drew1) | exact HB.out)⟩
      · rw [if_neg c5] at H
        have c5b0 : (t128 == 0) = false := beq_eq_false_iff_ne.mpr c5
        have c5b1 : (t128 != 0) = true := bne_iff_ne.mpr c5
        by_cases c6 : t128 = 1
        · rw [if_pos c6] at H
          have c6b0 : (t128 == 1) = true := beq_iff_eq.mpr c6
          have c6b1 : (t128 != 1) = false := bne_eq_false_iff_eq.mpr c6
          clear c6
          by_cases c7 : x3_1.size + 8 ≤ 9223372036854775807
          · rw [if_pos c7] at H
            have c7b0 := eq_true c7
            have c7b1 : decide (x3_1.size + 8 ≤ 9223372036854775807) = true := decide_eq_true c7
            try have c7b2 : (9223372036854775807 < x3_1.size + 8) = False := eq_false (Nat.not_lt.2 c7)
            obtain rfl := Option.some.inj H
            go_wp2_with (first | ((with_reducible refine gate_callee (f := 11) rfl ?_); refine goesL_ (some 13) rfl rfl Tryd.func11 (by kernel_rfl) rfl #[.int .u64 a0] rfl (by (try simp only [List.map_toArray, List.map_cons, List.map_nil]); first | done | rfl | (simp only [List.length_drop, List.length_take]; rfl)) ?_; (with_reducible refine (stoleref1_Real.calls kj1 a0 t128 _ A4.out).mono ?_); rintro e w' ⟨rfl, ⟨nd, rfl⟩⟩; refine ⟨_, rfl, ?_⟩))
            go_ret
            exact ⟨by first | rfl | (simp [errW_none, errW_some] <;> rfl) | (simp [*, errW_none, errW_some] <;> rfl), by repeat (first | (with_reducible first | exact HB.out | apply below_alloc | apply pw_below_drewN | apply below_drew1) | exact HB.out)⟩
          · rw [if_neg c7] at H
            exact absurd H (by simp)
        · rw [if_neg c6] at H
          have c6b0 : (t128 == 1) = false := beq_eq_false_iff_ne.mpr c6
          have c6b1 : (t128 != 1) = true := bne_iff_ne.mpr c6
          by_cases c8 : t128 = 2
          · rw [if_pos c8] at H
            have c8b0 : (t128 == 2) = true := beq_iff_eq.mpr c8
            have c8b1 : (t128 != 2) = false := bne_eq_false_iff_eq.mpr c8
            clear c8
            by_cases c9 : x3_1.size + 1 ≤ 9223372036854775807
            · rw [if_pos c9] at H
              have c9b0 := eq_true c9
              have c9b1 : decide (x3_1.size + 1 ≤ 9223372036854775807) = true := decide_eq_true c9
              try have c9b2 : (9223372036854775807 < x3_1.size + 1) = False := eq_false (Nat.not_lt.2 c9)
              obtain rfl := Option.some.inj H
              go_wp2_with (first | ((with_reducible refine gate_callee (f := 11) rfl ?_); refine goesL_ (some 13) rfl rfl Tryd.func11 (by kernel_rfl) rfl #[.int .u64 a0] rfl (by (try simp only [List.map_toArray, List.map_cons, List.map_nil]); first | done | rfl | (simp only [List.length_drop, List.length_take]; rfl)) ?_; (with_reducible refine (stoleref1_Real.calls kj1 a0 t128 _ A4.out).mono ?_); rintro e w' ⟨rfl, ⟨nd, rfl⟩⟩; refine ⟨_, rfl, ?_⟩))
              go_ret
              exact ⟨by first | rfl | (simp [errW_none, errW_some] <;> rfl) | (simp [*, errW_none, errW_some] <;> rfl), by repeat (first | (with_reducible first | exact HB.out | apply below_alloc | apply pw_below_drewN | apply below_drew1) | exact HB.out)⟩
            · rw [if_neg c9] at H
              exact absurd H (by simp)
          · rw [if_neg c8] at H
            have c8b0 : (t128 == 2) = false := beq_eq_false_iff_ne.mpr c8
            have c8b1 : (t128 != 2) = true := bne_iff_ne.mpr c8
            by_cases c10 : t128 = 3
            · rw [if_pos c10] at H
              have c10b0 : (t128 == 3) = true := beq_iff_eq.mpr c10
              have c10b1 : (t128 != 3) = false := bne_eq_false_iff_eq.mpr c10
              clear c10
              replace H := Option.bind_eq_some_iff.mp H
              obtain ⟨⟨t129, t130⟩, A110, H⟩ := H
              replace H : ((stoleref1_Number.f kj1 t129).bind fun t131 => (some t131)) = some r := H
              have A11 := Aside0.mk A110
              clear A110
              replace H := Option.bind_eq_some_iff.mp H
              obtain ⟨t131, A120, H⟩ := H
              replace H : (some t131) = some r := H
              have A12 := Aside0.mk A120
              clear A120
              obtain rfl := Option.some.inj H
              go_wp2_with (first | ((with_reducible refine gate_callee (f := 11) rfl ?_); refine goesL_ (some 13) rfl rfl Tryd.func11 (by kernel_rfl) rfl #[.int .u64 a0] rfl (by (try simp only [List.map_toArray, List.map_cons, List.map_nil]); first | done | rfl | (simp only [List.length_drop, List.length_take]; rfl)) ?_; (with_reducible refine (stoleref1_Real.calls kj1 a0 t128 _ A4.out).mono ?_); rintro e w' ⟨rfl, ⟨nd, rfl⟩⟩; refine ⟨_, rfl, ?_⟩) | ((with_reducible refine gate_callee (f := 9) rfl ?_); refine goesL_ (some 28) rfl rfl Tryd.func9 (by kernel_rfl) rfl #[.int .u64 a0] rfl (by (try simp only [List.map_toArray, List.map_cons, List.map_nil]); first | done | rfl | (simp only [List.length_drop, List.length_take]; rfl)) ?_; (with_reducible refine (stoleref1_Whole.calls kj1 a0 t129 t130 _ A11.out).mono ?_); rintro e w' ⟨rfl, ⟨nd, rfl⟩⟩; refine ⟨_, rfl, ?_⟩) | ((with_reducible refine gate_callee (f := 26) rfl ?_); refine goesL_ (some 32) rfl rfl Tryd.func26 (by kernel_rfl) rfl #[.int .i64 t129] rfl (by (try simp only [List.map_toArray, List.map_cons, List.map_nil]); first | done | rfl | (simp only [List.length_drop, List.length_take]; rfl)) ?_; (with_reducible refine (stoleref1_Number.calls kj1 t129 t131 _ A12.out).mono ?_); rintro e w13 ⟨rfl, hb⟩; refine ⟨_, rfl, ?_⟩; have n0_ := Aside0.mk (below_step (by repeat (first | (with_reducible first | exact HB.out | apply below_alloc | apply pw_below_drewN | apply below_drew1) | exact HB.out)) hb); clear HB; have HB := n0_; clear n0_; (try clear hb); (try clear hb2); (try clear hk); (try clear hi)))
              go_ret
              exact ⟨by first | rfl | (simp [errW_none, errW_some] <;> rfl) | (simp [*, errW_none, errW_some] <;> rfl), by repeat (first | (with_reducible first | exact HB.out | apply below_alloc | apply pw_below_drewN | apply below_drew1) | exact HB.out)⟩
            · rw [if_neg c10] at H
              have c10b0 : (t128 == 3) = false := beq_eq_false_iff_ne.mpr c10
              have c10b1 : (t128 != 3) = true := bne_iff_ne.mpr c10
              replace H := Option.bind_eq_some_iff.mp H
              obtain ⟨⟨t132, t133, t134⟩, A140, H⟩ := H
              replace H : ((stoleref0_Decimal.f kj1 (wrap64 (t133))).bind fun t135 => (if x3_1.size + t135.size ≤ 9223372036854775807 then (if (x3_1 ++ t135).size + 1 ≤ 9223372036854775807 then ((stoleref1_Number.f kj1 t134).bind fun t136 => (if ((x3_1 ++ t135) ++ (⟨#[112]⟩ : ByteArray)).size + t136.size ≤ 9223372036854775807 then (some (((x3_1 ++ t135) ++ (⟨#[112]⟩ : ByteArray)) ++ t136)) else (none))) else (none)) else (none))) = some r := H
              have A14 := Aside0.mk A140
              clear A140
              replace H := Option.bind_eq_some_iff.mp H
              obtain ⟨t135, A150, H⟩ := H
              replace H : (if x3_1.size + t135.size ≤ 9223372036854775807 then (if (x3_1 ++ t135).size + 1 ≤ 9223372036854775807 then ((stoleref1_Number.f kj1 t134).bind fun t136 => (if ((x3_1 ++ t135) ++ (⟨#[112]⟩ : ByteArray)).size + t136.size ≤ 9223372036854775807 then (some (((x3_1 ++ t135) ++ (⟨#[112]⟩ : ByteArray)) ++ t136)) else (none))) else (none)) else (none)) = some r := H
              have A15 := Aside0.mk A150
              clear A150
              by_cases c16 : x3_1.size + t135.size ≤ 9223372036854775807
              · rw [if_pos c16] at H
                have c16b0 := eq_true c16
                have c16b1 : decide (x3_1.size + t135.size ≤ 9223372036854775807) = true := decide_eq_true c16
                try have c16b2 : (9223372036854775807 < x3_1.size + t135.size) = False := eq_false (Nat.not_lt.2 c16)
                by_cases c17 : (x3_1 ++ t135).size + 1 ≤ 9223372036854775807
                · rw [if_pos c17] at H
                  have c17b0 := eq_true c17
                  have c17b1 : decide ((x3_1 ++ t135).size + 1 ≤ 9223372036854775807) = true := decide_eq_true c17
                  try have c17b2 : (9223372036854775807 < (x3_1 ++ t135).size + 1) = False := eq_false (Nat.not_lt.2 c17)
                  try have c17b3 : (9223372036854775807 < x3_1.size + t135.size + 1) = False := eq_false (by have h_ := c17; simp only [ByteArray.size_append, Own.lit_size, List.size_toArray, List.length_cons, List.length_nil] at h_; omega)
                  try have c17b4 : decide (x3_1.size + t135.size + 1 ≤ 9223372036854775807) = true := decide_eq_true (by have h_ := c17; simp only [ByteArray.size_append, Own.lit_size, List.size_toArray, List.length_cons, List.length_nil] at h_; omega)
                  replace H := Option.bind_eq_some_iff.mp H
                  obtain ⟨t136, A180, H⟩ := H
                  replace H : (if ((x3_1 ++ t135) ++ (⟨#[112]⟩ : ByteArray)).size + t136.size ≤ 9223372036854775807 then (some (((x3_1 ++ t135) ++ (⟨#[112]⟩ : ByteArray)) ++ t136)) else (none)) = some r := H
                  have A18 := Aside0.mk A180
                  clear A180
                  by_cases c19 : ((x3_1 ++ t135) ++ (⟨#[112]⟩ : ByteArray)).size + t136.size ≤ 9223372036854775807
                  · rw [if_pos c19] at H
                    have c19b0 := eq_true c19
                    have c19b1 : decide (((x3_1 ++ t135) ++ (⟨#[112]⟩ : ByteArray)).size + t136.size ≤ 9223372036854775807) = true := decide_eq_true c19
                    try have c19b2 : (9223372036854775807 < ((x3_1 ++ t135) ++ (⟨#[112]⟩ : ByteArray)).size + t136.size) = False := eq_false (Nat.not_lt.2 c19)
                    try have c19b3 : (9223372036854775807 < x3_1.size + t135.size + 1 + t136.size) = False := eq_false (by have h_ := c19; simp only [ByteArray.size_append, Own.lit_size, List.size_toArray, List.length_cons, List.length_nil] at h_; omega)
                    try have c19b4 : decide (x3_1.size + t135.size + 1 + t136.size ≤ 9223372036854775807) = true := decide_eq_true (by have h_ := c19; simp only [ByteArray.size_append, Own.lit_size, List.size_toArray, List.length_cons, List.length_nil] at h_; omega)
                    obtain rfl := Option.some.inj H
                    go_wp2_with (first | ((with_reducible refine gate_callee (f := 11) rfl ?_); refine goesL_ (some 13) rfl rfl Tryd.func11 (by kernel_rfl) rfl #[.int .u64 a0] rfl (by (try simp only [List.map_toArray, List.map_cons, List.map_nil]); first | done | rfl | (simp only [List.length_drop, List.length_take]; rfl)) ?_; (with_reducible refine (stoleref1_Real.calls kj1 a0 t128 _ A4.out).mono ?_); rintro e w' ⟨rfl, ⟨nd, rfl⟩⟩; refine ⟨_, rfl, ?_⟩) | ((with_reducible refine gate_callee (f := 17) rfl ?_); refine goesL_ (some 35) rfl rfl Tryd.func17 (by kernel_rfl) rfl #[.int .u64 a0] rfl (by (try simp only [List.map_toArray, List.map_cons, List.map_nil]); first | done | rfl | (simp only [List.length_drop, List.length_take]; rfl)) ?_; (with_reducible refine (stoleref1_Split.calls kj1 a0 t132 t133 t134 _ A14.out).mono ?_); rintro e w' ⟨rfl, ⟨nd, rfl⟩⟩; refine ⟨_, rfl, ?_⟩) | ((with_reducible refine gate_callee (f := 15) rfl ?_); refine goesL_ (some 42) rfl rfl Tryd.func15 (by kernel_rfl) rfl #[.int .i64 (wrap64 (t133))] rfl (by (try simp only [List.map_toArray, List.map_cons, List.map_nil]); first | done | rfl | (simp only [List.length_drop, List.length_take]; rfl)) ?_; (with_reducible refine (stoleref0_Decimal.calls kj1 (wrap64 (t133)) t135 _ A15.out).mono ?_); rintro e w20 ⟨rfl, hb⟩; refine ⟨_, rfl, ?_⟩; have n0_ := Aside0.mk (below_step (by repeat (first | (with_reducible first | exact HB.out | apply below_alloc | apply pw_below_drewN | apply below_drew1) | exact HB.out)) hb); clear HB; have HB := n0_; clear n0_; (try clear hb); (try clear hb2); (try clear hk); (try clear hi)) | ((with_reducible refine gate_callee (f := 26) rfl ?_); refine goesL_ (some 46) rfl rfl Tryd.func26 (by kernel_rfl) rfl #[.int .i64 t134] rfl (by (try simp only [List.map_toArray, List.map_cons, List.map_nil]); first | done | rfl | (simp only [List.length_drop, List.length_take]; rfl)) ?_; (with_reducible refine (stoleref1_Number.calls kj1 t134 t136 _ A18.out).mono ?_); rintro e w21 ⟨rfl, hb⟩; refine ⟨_, rfl, ?_⟩; have n0_ := Aside0.mk (below_step (by repeat (first | (with_reducible first | exact HB.out | apply below_alloc | apply pw_below_drewN | apply below_drew1) | exact HB.out)) hb); clear HB; have HB := n0_; clear n0_; (try clear hb); (try clear hb2); (try clear hk); (try clear hi)))
                    go_ret
                    exact ⟨by first | rfl | (simp [errW_none, errW_some] <;> rfl) | (simp [*, errW_none, errW_some] <;> rfl), by repeat (first | (with_reducible first | exact HB.out | apply below_alloc | apply pw_below_drewN | apply below_drew1) | exact HB.out)⟩
                  · rw [if_neg c19] at H
                    exact absurd H (by simp)
                · rw [if_neg c17] at H
                  exact absurd H (by simp)
              · rw [if_neg c16] at H
                exact absurd H (by simp)

/-! ### stolelaw0_Num: function 27 -/
def stolelaw0_Num.f (a0 : Int) : Option (Int) := some a0
set_option maxHeartbeats 8000000 in
set_option maxRecDepth 100000 in
theorem stolelaw0_Num.calls (a0 : Int) (r : Int) (w : World) (h : stolelaw0_Num.f a0 = some r) :
    Calls Tryd.prog 27 #[.int .i64 a0] w fun e w' => e = .returned (.int .i64 r) ∧ Drawn0 w w' := by
  have H : (some a0) = some r := h
  clear h
  obtain rfl := Option.some.inj H
  go_enter Tryd.func27, Tryd.ntmps27
  go_wp2
  go_ret
  exact ⟨by first | rfl | (simp; done) | (simp [*]; done), by repeat (first | exact Drawn0.refl _ | apply Drawn0.step)⟩

/-! ### stolelaw3_awake: function 14 -/
def stolelaw3_awake.f  : Option (Bool) := (real_Whole.f 13837309855095848960).bind fun bt137 => ((real_Whole.f 4602678819172646912).bind fun bt139 => ((real_Kind.f 9221120237041090561).bind fun t141 => (if t141 = 0 then ((real_Text.f 9221120237041090561).bind fun t142 => (if t142.toList = ([78, 97, 78] : List UInt8) then ((real_Kind.f 18442240474082181120).bind fun t143 => (if t143 = 1 then ((real_Text.f 18442240474082181120).bind fun t144 => (if t144.toList = ([45, 73, 110, 102, 105, 110, 105, 116, 121] : List UInt8) then ((real_Text.f 9223372036854775808).bind fun t145 => (if t145.toList = ([45, 48] : List UInt8) then ((real_Text.f 13837309855095848960).bind fun t146 => (if t146.toList = ([45, 51] : List UInt8) then (if bt137.1 = (-3) then (if bt137.2 = true then (if bt139.2 = true then (some false) else ((real_Text.f 4602678819172646912).bind fun t147 => (if t147.toList = ([49, 112, 45, 49] : List UInt8) then ((real_Text.f 1).bind fun t148 => (if t148.toList = ([49, 112, 45, 49, 48, 55, 52] : List UInt8) then ((stolelaw0_Num.f 0).bind fun t149 => (some (t149 == 0))) else (some false))) else (some false)))) else (some false)) else (some false)) else (some false))) else (some false))) else (some false))) else (some false))) else (some false))) else (some false))))
set_option maxHeartbeats 8000000 in
set_option maxRecDepth 100000 in
theorem stolelaw3_awake.calls  (r : Bool) (w : World) (hT : Tabs w) (h : stolelaw3_awake.f  = some r) :
    Calls Tryd.prog 14 #[] w fun e w' => e = .returned (.bool r) ∧ Below w.heap.size w w' := by
  have HT := Aside0.mk hT
  clear hT
  have HB := Aside0.mk (Below.refl w.heap.size w)
  have H : ((real_Whole.f 13837309855095848960).bind fun bt137 => ((real_Whole.f 4602678819172646912).bind fun bt139 => ((real_Kind.f 9221120237041090561).bind fun t141 => (if t141 = 0 then ((real_Text.f 9221120237041090561).bind fun t142 => (if t142.toList = ([78, 97, 78] : List UInt8) then ((real_Kind.f 18442240474082181120).bind fun t143 => (if t143 = 1 then ((real_Text.f 18442240474082181120).bind fun t144 => (if t144.toList = ([45, 73, 110, 102, 105, 110, 105, 116, 121] : List UInt8) then ((real_Text.f 9223372036854775808).bind fun t145 => (if t145.toList = ([45, 48] : List UInt8) then ((real_Text.f 13837309855095848960).bind fun t146 => (if t146.toList = ([45, 51] : List UInt8) then (if bt137.1 = (-3) then (if bt137.2 = true then (if bt139.2 = true then (some false) else ((real_Text.f 4602678819172646912).bind fun t147 => (if t147.toList = ([49, 112, 45, 49] : List UInt8) then ((real_Text.f 1).bind fun t148 => (if t148.toList = ([49, 112, 45, 49, 48, 55, 52] : List UInt8) then ((stolelaw0_Num.f 0).bind fun t149 => (some (t149 == 0))) else (some false))) else (some false)))) else (some false)) else (some false)) else (some false))) else (some false))) else (some false))) else (some false))) else (some false))) else (some false))))) = some r := h
  clear h
  replace H := Option.bind_eq_some_iff.mp H
  obtain ⟨⟨t137, t138⟩, A10, H⟩ := H
  replace H : ((real_Whole.f 4602678819172646912).bind fun bt139 => ((real_Kind.f 9221120237041090561).bind fun t141 => (if t141 = 0 then ((real_Text.f 9221120237041090561).bind fun t142 => (if t142.toList = ([78, 97, 78] : List UInt8) then ((real_Kind.f 18442240474082181120).bind fun t143 => (if t143 = 1 then ((real_Text.f 18442240474082181120).bind fun t144 => (if t144.toList = ([45, 73, 110, 102, 105, 110, 105, 116, 121] : List UInt8) then ((real_Text.f 9223372036854775808).bind fun t145 => (if t145.toList = ([45, 48] : List UInt8) then ((real_Text.f 13837309855095848960).bind fun t146 => (if t146.toList = ([45, 51] : List UInt8) then (if t137 = (-3) then (if t138 = true then (if bt139.2 = true then (some false) else ((real_Text.f 4602678819172646912).bind fun t147 => (if t147.toList = ([49, 112, 45, 49] : List UInt8) then ((real_Text.f 1).bind fun t148 => (if t148.toList = ([49, 112, 45, 49, 48, 55, 52] : List UInt8) then ((stolelaw0_Num.f 0).bind fun t149 => (some (t149 == 0))) else (some false))) else (some false)))) else (some false)) else (some false)) else (some false))) else (some false))) else (some false))) else (some false))) else (some false))) else (some false)))) = some r := H
  have A1 := Aside0.mk A10
  clear A10
  replace H := Option.bind_eq_some_iff.mp H
  obtain ⟨⟨t139, t140⟩, A20, H⟩ := H
  replace H : ((real_Kind.f 9221120237041090561).bind fun t141 => (if t141 = 0 then ((real_Text.f 9221120237041090561).bind fun t142 => (if t142.toList = ([78, 97, 78] : List UInt8) then ((real_Kind.f 18442240474082181120).bind fun t143 => (if t143 = 1 then ((real_Text.f 18442240474082181120).bind fun t144 => (if t144.toList = ([45, 73, 110, 102, 105, 110, 105, 116, 121] : List UInt8) then ((real_Text.f 9223372036854775808).bind fun t145 => (if t145.toList = ([45, 48] : List UInt8) then ((real_Text.f 13837309855095848960).bind fun t146 => (if t146.toList = ([45, 51] : List UInt8) then (if t137 = (-3) then (if t138 = true then (if t140 = true then (some false) else ((real_Text.f 4602678819172646912).bind fun t147 => (if t147.toList = ([49, 112, 45, 49] : List UInt8) then ((real_Text.f 1).bind fun t148 => (if t148.toList = ([49, 112, 45, 49, 48, 55, 52] : List UInt8) then ((stolelaw0_Num.f 0).bind fun t149 => (some (t149 == 0))) else (some false))) else (some false)))) else (some false)) else (some false)) else (some false))) else (some false))) else (some false))) else (some false))) else (some false))) else (some false))) = some r := H
  have A2 := Aside0.mk A20
  clear A20
  replace H := Option.bind_eq_some_iff.mp H
  obtain ⟨t141, A30, H⟩ := H
  replace H : (if t141 = 0 then ((real_Text.f 9221120237041090561).bind fun t142 => (if t142.toList = ([78, 97, 78] : List UInt8) then ((real_Kind.f 18442240474082181120).bind fun t143 => (if t143 = 1 then ((real_Text.f 18442240474082181120).bind fun t144 => (if t144.toList = ([45, 73, 110, 102, 105, 110, 105, 116, 121] : List UInt8) then ((real_Text.f 9223372036854775808).bind fun t145 => (if t145.toList = ([45, 48] : List UInt8) then ((real_Text.f 13837309855095848960).bind fun t146 => (if t146.toList = ([45, 51] : List UInt8) then (if t137 = (-3) then (if t138 = true then (if t140 = true then (some false) else ((real_Text.f 4602678819172646912).bind fun t147 => (if t147.toList = ([49, 112, 45, 49] : List UInt8) then ((real_Text.f 1).bind fun t148 => (if t148.toList = ([49, 112, 45, 49, 48, 55, 52] : List UInt8) then ((stolelaw0_Num.f 0).bind fun t149 => (some (t149 == 0))) else (some false))) else (some false)))) else (some false)) else (some false)) else (some false))) else (some false))) else (some false))) else (some false))) else (some false))) else (some false)) = some r := H
  have A3 := Aside0.mk A30
  clear A30
  by_cases c4 : t141 = 0
  · rw [if_pos c4] at H
    have c4b0 : (t141 == 0) = true := beq_iff_eq.mpr c4
    have c4b1 : (t141 != 0) = false := bne_eq_false_iff_eq.mpr c4
    clear c4
    replace H := Option.bind_eq_some_iff.mp H
    obtain ⟨t142, A50, H⟩ := H
    replace H : (if t142.toList = ([78, 97, 78] : List UInt8) then ((real_Kind.f 18442240474082181120).bind fun t143 => (if t143 = 1 then ((real_Text.f 18442240474082181120).bind fun t144 => (if t144.toList = ([45, 73, 110, 102, 105, 110, 105, 116, 121] : List UInt8) then ((real_Text.f 9223372036854775808).bind fun t145 => (if t145.toList = ([45, 48] : List UInt8) then ((real_Text.f 13837309855095848960).bind fun t146 => (if t146.toList = ([45, 51] : List UInt8) then (if t137 = (-3) then (if t138 = true then (if t140 = true then (some false) else ((real_Text.f 4602678819172646912).bind fun t147 => (if t147.toList = ([49, 112, 45, 49] : List UInt8) then ((real_Text.f 1).bind fun t148 => (if t148.toList = ([49, 112, 45, 49, 48, 55, 52] : List UInt8) then ((stolelaw0_Num.f 0).bind fun t149 => (some (t149 == 0))) else (some false))) else (some false)))) else (some false)) else (some false)) else (some false))) else (some false))) else (some false))) else (some false))) else (some false)) = some r := H
    have A5 := Aside0.mk A50
    clear A50
    by_cases c6 : t142.toList = ([78, 97, 78] : List UInt8)
    · rw [if_pos c6] at H
      have c6b0 : (t142.toList == ([78, 97, 78] : List UInt8)) = true := beq_iff_eq.mpr c6
      have c6b1 : (t142.toList != ([78, 97, 78] : List UInt8)) = false := bne_eq_false_iff_eq.mpr c6
      clear c6
      replace H := Option.bind_eq_some_iff.mp H
      obtain ⟨t143, A70, H⟩ := H
      replace H : (if t143 = 1 then ((real_Text.f 18442240474082181120).bind fun t144 => (if t144.toList = ([45, 73, 110, 102, 105, 110, 105, 116, 121] : List UInt8) then ((real_Text.f 9223372036854775808).bind fun t145 => (if t145.toList = ([45, 48] : List UInt8) then ((real_Text.f 13837309855095848960).bind fun t146 => (if t146.toList = ([45, 51] : List UInt8) then (if t137 = (-3) then (if t138 = true then (if t140 = true then (some false) else ((real_Text.f 4602678819172646912).bind fun t147 => (if t147.toList = ([49, 112, 45, 49] : List UInt8) then ((real_Text.f 1).bind fun t148 => (if t148.toList = ([49, 112, 45, 49, 48, 55, 52] : List UInt8) then ((stolelaw0_Num.f 0).bind fun t149 => (some (t149 == 0))) else (some false))) else (some false)))) else (some false)) else (some false)) else (some false))) else (some false))) else (some false))) else (some false)) = some r := H
      have A7 := Aside0.mk A70
      clear A70
      by_cases c8 : t143 = 1
      · rw [if_pos c8] at H
        have c8b0 : (t143 == 1) = true := beq_iff_eq.mpr c8
        have c8b1 : (t143 != 1) = false := bne_eq_false_iff_eq.mpr c8
        clear c8
        replace H := Option.bind_eq_some_iff.mp H
        obtain ⟨t144, A90, H⟩ := H
        replace H : (if t144.toList = ([45, 73, 110, 102, 105, 110, 105, 116, 121] : List UInt8) then ((real_Text.f 9223372036854775808).bind fun t145 => (if t145.toList = ([45, 48] : List UInt8) then ((real_Text.f 13837309855095848960).bind fun t146 => (if t146.toList = ([45, 51] : List UInt8) then (if t137 = (-3) then (if t138 = true then (if t140 = true then (some false) else ((real_Text.f 4602678819172646912).bind fun t147 => (if t147.toList = ([49, 112, 45, 49] : List UInt8) then ((real_Text.f 1).bind fun t148 => (if t148.toList = ([49, 112, 45, 49, 48, 55, 52] : List UInt8) then ((stolelaw0_Num.f 0).bind fun t149 => (some (t149 == 0))) else (some false))) else (some false)))) else (some false)) else (some false)) else (some false))) else (some false))) else (some false)) = some r := H
        have A9 := Aside0.mk A90
        clear A90
        by_cases c10 : t144.toList = ([45, 73, 110, 102, 105, 110, 105, 116, 121] : List UInt8)
        · rw [if_pos c10] at H
          have c10b0 : (t144.toList == ([45, 73, 110, 102, 105, 110, 105, 116, 121] : List UInt8)) = true := beq_iff_eq.mpr c10
          have c10b1 : (t144.toList != ([45, 73, 110, 102, 105, 110, 105, 116, 121] : List UInt8)) = false := bne_eq_false_iff_eq.mpr c10
          clear c10
          replace H := Option.bind_eq_some_iff.mp H
          obtain ⟨t145, A110, H⟩ := H
          replace H : (if t145.toList = ([45, 48] : List UInt8) then ((real_Text.f 13837309855095848960).bind fun t146 => (if t146.toList = ([45, 51] : List UInt8) then (if t137 = (-3) then (if t138 = true then (if t140 = true then (some false) else ((real_Text.f 4602678819172646912).bind fun t147 => (if t147.toList = ([49, 112, 45, 49] : List UInt8) then ((real_Text.f 1).bind fun t148 => (if t148.toList = ([49, 112, 45, 49, 48, 55, 52] : List UInt8) then ((stolelaw0_Num.f 0).bind fun t149 => (some (t149 == 0))) else (some false))) else (some false)))) else (some false)) else (some false)) else (some false))) else (some false)) = some r := H
          have A11 := Aside0.mk A110
          clear A110
          by_cases c12 : t145.toList = ([45, 48] : List UInt8)
          · rw [if_pos c12] at H
            have c12b0 : (t145.toList == ([45, 48] : List UInt8)) = true := beq_iff_eq.mpr c12
            have c12b1 : (t145.toList != ([45, 48] : List UInt8)) = false := bne_eq_false_iff_eq.mpr c12
            clear c12
            replace H := Option.bind_eq_some_iff.mp H
            obtain ⟨t146, A130, H⟩ := H
            replace H : (if t146.toList = ([45, 51] : List UInt8) then (if t137 = (-3) then (if t138 = true then (if t140 = true then (some false) else ((real_Text.f 4602678819172646912).bind fun t147 => (if t147.toList = ([49, 112, 45, 49] : List UInt8) then ((real_Text.f 1).bind fun t148 => (if t148.toList = ([49, 112, 45, 49, 48, 55, 52] : List UInt8) then ((stolelaw0_Num.f 0).bind fun t149 => (some (t149 == 0))) else (some false))) else (some false)))) else (some false)) else (some false)) else (some false)) = some r := H
            have A13 := Aside0.mk A130
            clear A130
            by_cases c14 : t146.toList = ([45, 51] : List UInt8)
            · rw [if_pos c14] at H
              have c14b0 : (t146.toList == ([45, 51] : List UInt8)) = true := beq_iff_eq.mpr c14
              have c14b1 : (t146.toList != ([45, 51] : List UInt8)) = false := bne_eq_false_iff_eq.mpr c14
              clear c14
              by_cases c15 : t137 = (-3)
              · rw [if_pos c15] at H
                have c15b0 : (t137 == (-3)) = true := beq_iff_eq.mpr c15
                have c15b1 : (t137 != (-3)) = false := bne_eq_false_iff_eq.mpr c15
                clear c15
                by_cases c16 : t138 = true
                · subst c16
                  have H1 : (if t140 = true then (some false) else ((real_Text.f 4602678819172646912).bind fun t147 => (if t147.toList = ([49, 112, 45, 49] : List UInt8) then ((real_Text.f 1).bind fun t148 => (if t148.toList = ([49, 112, 45, 49, 48, 55, 52] : List UInt8) then ((stolelaw0_Num.f 0).bind fun t149 => (some (t149 == 0))) else (some false))) else (some false)))) = some r := by rw [if_pos rfl] at H; exact H
                  clear H
                  have H := H1
                  clear H1
                  by_cases c17 : t140 = true
                  · subst c17
                    have H1 : (some false) = some r := by rw [if_pos rfl] at H; exact H
                    clear H
                    have H := H1
                    clear H1
                    obtain rfl := Option.some.inj H
                    go_enter Tryd.func14, Tryd.ntmps14
                    go_wp2_with (first | ((with_reducible refine gate_callee (f := 8) rfl ?_); refine goesL_ (some 6) rfl rfl Tryd.func8 (by kernel_rfl) rfl #[.int .u64 13837309855095848960] rfl (by (try simp only [List.map_toArray, List.map_cons, List.map_nil]); first | done | rfl | (simp only [List.length_drop, List.length_take]; rfl)) ?_; (with_reducible refine (real_Whole.calls 13837309855095848960 t137 true _ A1.out).mono ?_); rintro e w' ⟨rfl, ⟨nd, rfl⟩⟩; refine ⟨_, rfl, ?_⟩) | ((with_reducible refine gate_callee (f := 8) rfl ?_); refine goesL_ (some 10) rfl rfl Tryd.func8 (by kernel_rfl) rfl #[.int .u64 4602678819172646912] rfl (by (try simp only [List.map_toArray, List.map_cons, List.map_nil]); first | done | rfl | (simp only [List.length_drop, List.length_take]; rfl)) ?_; (with_reducible refine (real_Whole.calls 4602678819172646912 t139 true _ A2.out).mono ?_); rintro e w' ⟨rfl, ⟨nd, rfl⟩⟩; refine ⟨_, rfl, ?_⟩) | ((with_reducible refine gate_callee (f := 10) rfl ?_); refine goesL_ (some 13) rfl rfl Tryd.func10 (by kernel_rfl) rfl #[.int .u64 9221120237041090561] rfl (by (try simp only [List.map_toArray, List.map_cons, List.map_nil]); first | done | rfl | (simp only [List.length_drop, List.length_take]; rfl)) ?_; (with_reducible refine (real_Kind.calls 9221120237041090561 t141 _ A3.out).mono ?_); rintro e w' ⟨rfl, ⟨nd, rfl⟩⟩; refine ⟨_, rfl, ?_⟩) | (go_at_call 12; (with_reducible refine (real_Text.calls 9221120237041090561 t142 _ (Tabs.below HT.out (by repeat (first | (with_reducible first | exact HB.out | apply below_alloc | apply pw_below_drewN | apply below_drew1) | exact HB.out))) A5.out).mono ?_); rintro e w18 ⟨rfl, hb⟩; have n0_ := Aside0.mk (below_step (by repeat (first | (with_reducible first | exact HB.out | apply below_alloc | apply pw_below_drewN | apply below_drew1) | exact HB.out)) hb); clear HB; have HB := n0_; clear n0_; (try clear hb); (try clear hb2); (try clear hk); (try clear hi)) | (go_at_call 10; (with_reducible refine (real_Kind.calls 18442240474082181120 t143 _ A7.out).mono ?_); rintro e w' ⟨rfl, ⟨nd, rfl⟩⟩) | (go_at_call 12; (with_reducible refine (real_Text.calls 18442240474082181120 t144 _ (Tabs.below HT.out (by repeat (first | (with_reducible first | exact HB.out | apply below_alloc | apply pw_below_drewN | apply below_drew1) | exact HB.out))) A9.out).mono ?_); rintro e w19 ⟨rfl, hb⟩; have n0_ := Aside0.mk (below_step (by repeat (first | (with_reducible first | exact HB.out | apply below_alloc | apply pw_below_drewN | apply below_drew1) | exact HB.out)) hb); clear HB; have HB := n0_; clear n0_; (try clear hb); (try clear hb2); (try clear hk); (try clear hi)) | (go_at_call 12; (with_reducible refine (real_Text.calls 9223372036854775808 t145 _ (Tabs.below HT.out (by repeat (first | (with_reducible first | exact HB.out | apply below_alloc | apply pw_below_drewN | apply below_drew1) | exact HB.out))) A11.out).mono ?_); rintro e w20 ⟨rfl, hb⟩; have n0_ := Aside0.mk (below_step (by repeat (first | (with_reducible first | exact HB.out | apply below_alloc | apply pw_below_drewN | apply below_drew1) | exact HB.out)) hb); clear HB; have HB := n0_; clear n0_; (try clear hb); (try clear hb2); (try clear hk); (try clear hi)) | (go_at_call 12; (with_reducible refine (real_Text.calls 13837309855095848960 t146 _ (Tabs.below HT.out (by repeat (first | (with_reducible first | exact HB.out | apply below_alloc | apply pw_below_drewN | apply below_drew1) | exact HB.out))) A13.out).mono ?_); rintro e w21 ⟨rfl, hb⟩; have n0_ := Aside0.mk (below_step (by repeat (first | (with_reducible first | exact HB.out | apply below_alloc | apply pw_below_drewN | apply below_drew1) | exact HB.out)) hb); clear HB; have HB := n0_; clear n0_; (try clear hb); (try clear hb2); (try clear hk); (try clear hi)))
                    go_ret
                    exact ⟨by first | rfl | (simp [errW_none, errW_some] <;> rfl) | (simp [*, errW_none, errW_some] <;> rfl), by repeat (first | (with_reducible first | exact HB.out | apply below_alloc | apply pw_below_drewN | apply below_drew1) | exact HB.out)⟩
                  · replace c17 := Bool.eq_false_iff.mpr c17
                    subst c17
                    have H1 : ((real_Text.f 4602678819172646912).bind fun t147 => (if t147.toList = ([49, 112, 45, 49] : List UInt8) then ((real_Text.f 1).bind fun t148 => (if t148.toList = ([49, 112, 45, 49, 48, 55, 52] : List UInt8) then ((stolelaw0_Num.f 0).bind fun t149 => (some (t149 == 0))) else (some false))) else (some false))) = some r := by rw [if_neg (show ¬ (false = true) by decide)] at H; exact H
                    clear H
                    have H := H1
                    clear H1
                    replace H := Option.bind_eq_some_iff.mp H
                    obtain ⟨t147, A220, H⟩ := H
                    replace H : (if t147.toList = ([49, 112, 45, 49] : List UInt8) then ((real_Text.f 1).bind fun t148 => (if t148.toList = ([49, 112, 45, 49, 48, 55, 52] : List UInt8) then ((stolelaw0_Num.f 0).bind fun t149 => (some (t149 == 0))) else (some false))) else (some false)) = some r := H
                    have A22 := Aside0.mk A220
                    clear A220
                    by_cases c23 : t147.toList = ([49, 112, 45, 49] : List UInt8)
                    · rw [if_pos c23] at H
                      have c23b0 : (t147.toList == ([49, 112, 45, 49] : List UInt8)) = true := beq_iff_eq.mpr c23
                      have c23b1 : (t147.toList != ([49, 112, 45, 49] : List UInt8)) = false := bne_eq_false_iff_eq.mpr c23
                      clear c23
                      replace H := Option.bind_eq_some_iff.mp H
                      obtain ⟨t148, A240, H⟩ := H
                      replace H : (if t148.toList = ([49, 112, 45, 49, 48, 55, 52] : List UInt8) then ((stolelaw0_Num.f 0).bind fun t149 => (some (t149 == 0))) else (some false)) = some r := H
                      have A24 := Aside0.mk A240
                      clear A240
                      by_cases c25 : t148.toList = ([49, 112, 45, 49, 48, 55, 52] : List UInt8)
                      · rw [if_pos c25] at H
                        have c25b0 : (t148.toList == ([49, 112, 45, 49, 48, 55, 52] : List UInt8)) = true := beq_iff_eq.mpr c25
                        have c25b1 : (t148.toList != ([49, 112, 45, 49, 48, 55, 52] : List UInt8)) = false := bne_eq_false_iff_eq.mpr c25
                        clear c25
                        replace H := Option.bind_eq_some_iff.mp H
                        obtain ⟨t149, A260, H⟩ := H
                        replace H : (some (t149 == 0)) = some r := H
                        have A26 := Aside0.mk A260
                        clear A260
                        obtain rfl := Option.some.inj H
                        go_enter Tryd.func14, Tryd.ntmps14
                        go_wp2_with (first | ((with_reducible refine gate_callee (f := 8) rfl ?_); refine goesL_ (some 6) rfl rfl Tryd.func8 (by kernel_rfl) rfl #[.int .u64 13837309855095848960] rfl (by (try simp only [List.map_toArray, List.map_cons, List.map_nil]); first | done | rfl | (simp only [List.length_drop, List.length_take]; rfl)) ?_; (with_reducible refine (real_Whole.calls 13837309855095848960 t137 true _ A1.out).mono ?_); rintro e w' ⟨rfl, ⟨nd, rfl⟩⟩; refine ⟨_, rfl, ?_⟩) | ((with_reducible refine gate_callee (f := 8) rfl ?_); refine goesL_ (some 10) rfl rfl Tryd.func8 (by kernel_rfl) rfl #[.int .u64 4602678819172646912] rfl (by (try simp only [List.map_toArray, List.map_cons, List.map_nil]); first | done | rfl | (simp only [List.length_drop, List.length_take]; rfl)) ?_; (with_reducible refine (real_Whole.calls 4602678819172646912 t139 false _ A2.out).mono ?_); rintro e w' ⟨rfl, ⟨nd, rfl⟩⟩; refine ⟨_, rfl, ?_⟩) | ((with_reducible refine gate_callee (f := 10) rfl ?_); refine goesL_ (some 13) rfl rfl Tryd.func10 (by kernel_rfl) rfl #[.int .u64 9221120237041090561] rfl (by (try simp only [List.map_toArray, List.map_cons, List.map_nil]); first | done | rfl | (simp only [List.length_drop, List.length_take]; rfl)) ?_; (with_reducible refine (real_Kind.calls 9221120237041090561 t141 _ A3.out).mono ?_); rintro e w' ⟨rfl, ⟨nd, rfl⟩⟩; refine ⟨_, rfl, ?_⟩) | (go_at_call 12; (with_reducible refine (real_Text.calls 9221120237041090561 t142 _ (Tabs.below HT.out (by repeat (first | (with_reducible first | exact HB.out | apply below_alloc | apply pw_below_drewN | apply below_drew1) | exact HB.out))) A5.out).mono ?_); rintro e w27 ⟨rfl, hb⟩; have n0_ := Aside0.mk (below_step (by repeat (first | (with_reducible first | exact HB.out | apply below_alloc | apply pw_below_drewN | apply below_drew1) | exact HB.out)) hb); clear HB; have HB := n0_; clear n0_; (try clear hb); (try clear hb2); (try clear hk); (try clear hi)) | (go_at_call 10; (with_reducible refine (real_Kind.calls 18442240474082181120 t143 _ A7.out).mono ?_); rintro e w' ⟨rfl, ⟨nd, rfl⟩⟩) | (go_at_call 12; (with_reducible refine (real_Text.calls 18442240474082181120 t144 _ (Tabs.below HT.out (by repeat (first | (with_reducible first | exact HB.out | apply below_alloc | apply pw_below_drewN | apply below_drew1) | exact HB.out))) A9.out).mono ?_); rintro e w28 ⟨rfl, hb⟩; have n0_ := Aside0.mk (below_step (by repeat (first | (with_reducible first | exact HB.out | apply below_alloc | apply pw_below_drewN | apply below_drew1) | exact HB.out)) hb); clear HB; have HB := n0_; clear n0_; (try clear hb); (try clear hb2); (try clear hk); (try clear hi)) | (go_at_call 12; (with_reducible refine (real_Text.calls 9223372036854775808 t145 _ (Tabs.below HT.out (by repeat (first | (with_reducible first | exact HB.out | apply below_alloc | apply pw_below_drewN | apply below_drew1) | exact HB.out))) A11.out).mono ?_); rintro e w29 ⟨rfl, hb⟩; have n0_ := Aside0.mk (below_step (by repeat (first | (with_reducible first | exact HB.out | apply below_alloc | apply pw_below_drewN | apply below_drew1) | exact HB.out)) hb); clear HB; have HB := n0_; clear n0_; (try clear hb); (try clear hb2); (try clear hk); (try clear hi)) | (go_at_call 12; (with_reducible refine (real_Text.calls 13837309855095848960 t146 _ (Tabs.below HT.out (by repeat (first | (with_reducible first | exact HB.out | apply below_alloc | apply pw_below_drewN | apply below_drew1) | exact HB.out))) A13.out).mono ?_); rintro e w30 ⟨rfl, hb⟩; have n0_ := Aside0.mk (below_step (by repeat (first | (with_reducible first | exact HB.out | apply below_alloc | apply pw_below_drewN | apply below_drew1) | exact HB.out)) hb); clear HB; have HB := n0_; clear n0_; (try clear hb); (try clear hb2); (try clear hk); (try clear hi)) | (go_at_call 12; (with_reducible refine (real_Text.calls 4602678819172646912 t147 _ (Tabs.below HT.out (by repeat (first | (with_reducible first | exact HB.out | apply below_alloc | apply pw_below_drewN | apply below_drew1) | exact HB.out))) A22.out).mono ?_); rintro e w31 ⟨rfl, hb⟩; have n0_ := Aside0.mk (below_step (by repeat (first | (with_reducible first | exact HB.out | apply below_alloc | apply pw_below_drewN | apply below_drew1) | exact HB.out)) hb); clear HB; have HB := n0_; clear n0_; (try clear hb); (try clear hb2); (try clear hk); (try clear hi)) | (go_at_call 12; (with_reducible refine (real_Text.calls 1 t148 _ (Tabs.below HT.out (by repeat (first | (with_reducible first | exact HB.out | apply below_alloc | apply pw_below_drewN | apply below_drew1) | exact HB.out))) A24.out).mono ?_); rintro e w32 ⟨rfl, hb⟩; have n0_ := Aside0.mk (below_step (by repeat (first | (with_reducible first | exact HB.out | apply below_alloc | apply pw_below_drewN | apply below_drew1) | exact HB.out)) hb); clear HB; have HB := n0_; clear n0_; (try clear hb); (try clear hb2); (try clear hk); (try clear hi)) | (go_at_call 27; (with_reducible refine (stolelaw0_Num.calls 0 t149 _ A26.out).mono ?_); rintro e w' ⟨rfl, ⟨nd, rfl⟩⟩))
                        go_ret
                        exact ⟨by first | rfl | (simp [errW_none, errW_some] <;> rfl) | (simp [*, errW_none, errW_some] <;> rfl), by repeat (first | (with_reducible first | exact HB.out | apply below_alloc | apply pw_below_drewN | apply below_drew1) | exact HB.out)⟩
                      · rw [if_neg c25] at H
                        have c25b0 : (t148.toList == ([49, 112, 45, 49, 48, 55, 52] : List UInt8)) = false := beq_eq_false_iff_ne.mpr c25
                        have c25b1 : (t148.toList != ([49, 112, 45, 49, 48, 55, 52] : List UInt8)) = true := bne_iff_ne.mpr c25
                        obtain rfl := Option.some.inj H
                        go_enter Tryd.func14, Tryd.ntmps14
                        go_wp2_with (first | ((with_reducible refine gate_callee (f := 8) rfl ?_); refine goesL_ (some 6) rfl rfl Tryd.func8 (by kernel_rfl) rfl #[.int .u64 13837309855095848960] rfl (by (try simp only [List.map_toArray, List.map_cons, List.map_nil]); first | done | rfl | (simp only [List.length_drop, List.length_take]; rfl)) ?_; (with_reducible refine (real_Whole.calls 13837309855095848960 t137 true _ A1.out).mono ?_); rintro e w' ⟨rfl, ⟨nd, rfl⟩⟩; refine ⟨_, rfl, ?_⟩) | ((with_reducible refine gate_callee (f := 8) rfl ?_); refine goesL_ (some 10) rfl rfl Tryd.func8 (by kernel_rfl) rfl #[.int .u64 4602678819172646912] rfl (by (try simp only [List.map_toArray, List.map_cons, List.map_nil]); first | done | rfl | (simp only [List.length_drop, List.length_take]; rfl)) ?_; (with_reducible refine (real_Whole.calls 4602678819172646912 t139 false _ A2.out).mono ?_); rintro e w' ⟨rfl, ⟨nd, rfl⟩⟩; refine ⟨_, rfl, ?_⟩) | ((with_reducible refine gate_callee (f := 10) rfl ?_); refine goesL_ (some 13) rfl rfl Tryd.func10 (by kernel_rfl) rfl #[.int .u64 9221120237041090561] rfl (by (try simp only [List.map_toArray, List.map_cons, List.map_nil]); first | done | rfl | (simp only [List.length_drop, List.length_take]; rfl)) ?_; (with_reducible refine (real_Kind.calls 9221120237041090561 t141 _ A3.out).mono ?_); rintro e w' ⟨rfl, ⟨nd, rfl⟩⟩; refine ⟨_, rfl, ?_⟩) | (go_at_call 12; (with_reducible refine (real_Text.calls 9221120237041090561 t142 _ (Tabs.below HT.out (by repeat (first | (with_reducible first | exact HB.out | apply below_alloc | apply pw_below_drewN | apply below_drew1) | exact HB.out))) A5.out).mono ?_); rintro e w33 ⟨rfl, hb⟩; have n0_ := Aside0.mk (below_step (by repeat (first | (with_reducible first | exact HB.out | apply below_alloc | apply pw_below_drewN | apply below_drew1) | exact HB.out)) hb); clear HB; have HB := n0_; clear n0_; (try clear hb); (try clear hb2); (try clear hk); (try clear hi)) | (go_at_call 10; (with_reducible refine (real_Kind.calls 18442240474082181120 t143 _ A7.out).mono ?_); rintro e w' ⟨rfl, ⟨nd, rfl⟩⟩) | (go_at_call 12; (with_reducible refine (real_Text.calls 18442240474082181120 t144 _ (Tabs.below HT.out (by repeat (first | (with_reducible first | exact HB.out | apply below_alloc | apply pw_below_drewN | apply below_drew1) | exact HB.out))) A9.out).mono ?_); rintro e w34 ⟨rfl, hb⟩; have n0_ := Aside0.mk (below_step (by repeat (first | (with_reducible first | exact HB.out | apply below_alloc | apply pw_below_drewN | apply below_drew1) | exact HB.out)) hb); clear HB; have HB := n0_; clear n0_; (try clear hb); (try clear hb2); (try clear hk); (try clear hi)) | (go_at_call 12; (with_reducible refine (real_Text.calls 9223372036854775808 t145 _ (Tabs.below HT.out (by repeat (first | (with_reducible first | exact HB.out | apply below_alloc | apply pw_below_drewN | apply below_drew1) | exact HB.out))) A11.out).mono ?_); rintro e w35 ⟨rfl, hb⟩; have n0_ := Aside0.mk (below_step (by repeat (first | (with_reducible first | exact HB.out | apply below_alloc | apply pw_below_drewN | apply below_drew1) | exact HB.out)) hb); clear HB; have HB := n0_; clear n0_; (try clear hb); (try clear hb2); (try clear hk); (try clear hi)) | (go_at_call 12; (with_reducible refine (real_Text.calls 13837309855095848960 t146 _ (Tabs.below HT.out (by repeat (first | (with_reducible first | exact HB.out | apply below_alloc | apply pw_below_drewN | apply below_drew1) | exact HB.out))) A13.out).mono ?_); rintro e w36 ⟨rfl, hb⟩; have n0_ := Aside0.mk (below_step (by repeat (first | (with_reducible first | exact HB.out | apply below_alloc | apply pw_below_drewN | apply below_drew1) | exact HB.out)) hb); clear HB; have HB := n0_; clear n0_; (try clear hb); (try clear hb2); (try clear hk); (try clear hi)) | (go_at_call 12; (with_reducible refine (real_Text.calls 4602678819172646912 t147 _ (Tabs.below HT.out (by repeat (first | (with_reducible first | exact HB.out | apply below_alloc | apply pw_below_drewN | apply below_drew1) | exact HB.out))) A22.out).mono ?_); rintro e w37 ⟨rfl, hb⟩; have n0_ := Aside0.mk (below_step (by repeat (first | (with_reducible first | exact HB.out | apply below_alloc | apply pw_below_drewN | apply below_drew1) | exact HB.out)) hb); clear HB; have HB := n0_; clear n0_; (try clear hb); (try clear hb2); (try clear hk); (try clear hi)) | (go_at_call 12; (with_reducible refine (real_Text.calls 1 t148 _ (Tabs.below HT.out (by repeat (first | (with_reducible first | exact HB.out | apply below_alloc | apply pw_below_drewN | apply below_drew1) | exact HB.out))) A24.out).mono ?_); rintro e w38 ⟨rfl, hb⟩; have n0_ := Aside0.mk (below_step (by repeat (first | (with_reducible first | exact HB.out | apply below_alloc | apply pw_below_drewN | apply below_drew1) | exact HB.out)) hb); clear HB; have HB := n0_; clear n0_; (try clear hb); (try clear hb2); (try clear hk); (try clear hi)))
                        go_ret
                        exact ⟨by first | rfl | (simp [errW_none, errW_some] <;> rfl) | (simp [*, errW_none, errW_some] <;> rfl), by repeat (first | (with_reducible first | exact HB.out | apply below_alloc | apply pw_below_drewN | apply below_drew1) | exact HB.out)⟩
                    · rw [if_neg c23] at H
                      have c23b0 : (t147.toList == ([49, 112, 45, 49] : List UInt8)) = false := beq_eq_false_iff_ne.mpr c23
                      have c23b1 : (t147.toList != ([49, 112, 45, 49] : List UInt8)) = true := bne_iff_ne.mpr c23
                      obtain rfl := Option.some.inj H
                      go_enter Tryd.func14, Tryd.ntmps14
                      go_wp2_with (first | ((with_reducible refine gate_callee (f := 8) rfl ?_); refine goesL_ (some 6) rfl rfl Tryd.func8 (by kernel_rfl) rfl #[.int .u64 13837309855095848960] rfl (by (try simp only [List.map_toArray, List.map_cons, List.map_nil]); first | done | rfl | (simp only [List.length_drop, List.length_take]; rfl)) ?_; (with_reducible refine (real_Whole.calls 13837309855095848960 t137 true _ A1.out).mono ?_); rintro e w' ⟨rfl, ⟨nd, rfl⟩⟩; refine ⟨_, rfl, ?_⟩) | ((with_reducible refine gate_callee (f := 8) rfl ?_); refine goesL_ (some 10) rfl rfl Tryd.func8 (by kernel_rfl) rfl #[.int .u64 4602678819172646912] rfl (by (try simp only [List.map_toArray, List.map_cons, List.map_nil]); first | done | rfl | (simp only [List.length_drop, List.length_take]; rfl)) ?_; (with_reducible refine (real_Whole.calls 4602678819172646912 t139 false _ A2.out).mono ?_); rintro e w' ⟨rfl, ⟨nd, rfl⟩⟩; refine ⟨_, rfl, ?_⟩) | ((with_reducible refine gate_callee (f := 10) rfl ?_); refine goesL_ (some 13) rfl rfl Tryd.func10 (by kernel_rfl) rfl #[.int .u64 9221120237041090561] rfl (by (try simp only [List.map_toArray, List.map_cons, List.map_nil]); first | done | rfl | (simp only [List.length_drop, List.length_take]; rfl)) ?_; (with_reducible refine (real_Kind.calls 9221120237041090561 t141 _ A3.out).mono ?_); rintro e w' ⟨rfl, ⟨nd, rfl⟩⟩; refine ⟨_, rfl, ?_⟩) | (go_at_call 12; (with_reducible refine (real_Text.calls 9221120237041090561 t142 _ (Tabs.below HT.out (by repeat (first | (with_reducible first | exact HB.out | apply below_alloc | apply pw_below_drewN | apply below_drew1) | exact HB.out))) A5.out).mono ?_); rintro e w39 ⟨rfl, hb⟩; have n0_ := Aside0.mk (below_step (by repeat (first | (with_reducible first | exact HB.out | apply below_alloc | apply pw_below_drewN | apply below_drew1) | exact HB.out)) hb); clear HB; have HB := n0_; clear n0_; (try clear hb); (try clear hb2); (try clear hk); (try clear hi)) | (go_at_call 10; (with_reducible refine (real_Kind.calls 18442240474082181120 t143 _ A7.out).mono ?_); rintro e w' ⟨rfl, ⟨nd, rfl⟩⟩) | (go_at_call 12; (with_reducible refine (real_Text.calls 18442240474082181120 t144 _ (Tabs.below HT.out (by repeat (first | (with_reducible first | exact HB.out | apply below_alloc | apply pw_below_drewN | apply below_drew1) | exact HB.out))) A9.out).mono ?_); rintro e w40 ⟨rfl, hb⟩; have n0_ := Aside0.mk (below_step (by repeat (first | (with_reducible first | exact HB.out | apply below_alloc | apply pw_below_drewN | apply below_drew1) | exact HB.out)) hb); clear HB; have HB := n0_; clear n0_; (try clear hb); (try clear hb2); (try clear hk); (try clear hi)) | (go_at_call 12; (with_reducible refine (real_Text.calls 9223372036854775808 t145 _ (Tabs.below HT.out (by repeat (first | (with_reducible first | exact HB.out | apply below_alloc | apply pw_below_drewN | apply below_drew1) | exact HB.out))) A11.out).mono ?_); rintro e w41 ⟨rfl, hb⟩; have n0_ := Aside0.mk (below_step (by repeat (first | (with_reducible first | exact HB.out | apply below_alloc | apply pw_below_drewN | apply below_drew1) | exact HB.out)) hb); clear HB; have HB := n0_; clear n0_; (try clear hb); (try clear hb2); (try clear hk); (try clear hi)) | (go_at_call 12; (with_reducible refine (real_Text.calls 13837309855095848960 t146 _ (Tabs.below HT.out (by repeat (first | (with_reducible first | exact HB.out | apply below_alloc | apply pw_below_drewN | apply below_drew1) | exact HB.out))) A13.out).mono ?_); rintro e w42 ⟨rfl, hb⟩; have n0_ := Aside0.mk (below_step (by repeat (first | (with_reducible first | exact HB.out | apply below_alloc | apply pw_below_drewN | apply below_drew1) | exact HB.out)) hb); clear HB; have HB := n0_; clear n0_; (try clear hb); (try clear hb2); (try clear hk); (try clear hi)) | (go_at_call 12; (with_reducible refine (real_Text.calls 4602678819172646912 t147 _ (Tabs.below HT.out (by repeat (first | (with_reducible first | exact HB.out | apply below_alloc | apply pw_below_drewN | apply below_drew1) | exact HB.out))) A22.out).mono ?_); rintro e w43 ⟨rfl, hb⟩; have n0_ := Aside0.mk (below_step (by repeat (first | (with_reducible first | exact HB.out | apply below_alloc | apply pw_below_drewN | apply below_drew1) | exact HB.out)) hb); clear HB; have HB := n0_; clear n0_; (try clear hb); (try clear hb2); (try clear hk); (try clear hi)))
                      go_ret
                      exact ⟨by first | rfl | (simp [errW_none, errW_some] <;> rfl) | (simp [*, errW_none, errW_some] <;> rfl), by repeat (first | (with_reducible first | exact HB.out | apply below_alloc | apply pw_below_drewN | apply below_drew1) | exact HB.out)⟩
                · replace c16 := Bool.eq_false_iff.mpr c16
                  subst c16
                  have H1 : (some false) = some r := by rw [if_neg (show ¬ (false = true) by decide)] at H; exact H
                  clear H
                  have H := H1
                  clear H1
                  obtain rfl := Option.some.inj H
                  go_enter Tryd.func14, Tryd.ntmps14
                  go_wp2_with (first | ((with_reducible refine gate_callee (f := 8) rfl ?_); refine goesL_ (some 6) rfl rfl Tryd.func8 (by kernel_rfl) rfl #[.int .u64 13837309855095848960] rfl (by (try simp only [List.map_toArray, List.map_cons, List.map_nil]); first | done | rfl | (simp only [List.length_drop, List.length_take]; rfl)) ?_; (with_reducible refine (real_Whole.calls 13837309855095848960 t137 false _ A1.out).mono ?_); rintro e w' ⟨rfl, ⟨nd, rfl⟩⟩; refine ⟨_, rfl, ?_⟩) | ((with_reducible refine gate_callee (f := 8) rfl ?_); refine goesL_ (some 10) rfl rfl Tryd.func8 (by kernel_rfl) rfl #[.int .u64 4602678819172646912] rfl (by (try simp only [List.map_toArray, List.map_cons, List.map_nil]); first | done | rfl | (simp only [List.length_drop, List.length_take]; rfl)) ?_; (with_reducible refine (real_Whole.calls 4602678819172646912 t139 t140 _ A2.out).mono ?_); rintro e w' ⟨rfl, ⟨nd, rfl⟩⟩; refine ⟨_, rfl, ?_⟩) | ((with_reducible refine gate_callee (f := 10) rfl ?_); refine goesL_ (some 13) rfl rfl Tryd.func10 (by kernel_rfl) rfl #[.int .u64 9221120237041090561] rfl (by (try simp only [List.map_toArray, List.map_cons, List.map_nil]); first | done | rfl | (simp only [List.length_drop, List.length_take]; rfl)) ?_; (with_reducible refine (real_Kind.calls 9221120237041090561 t141 _ A3.out).mono ?_); rintro e w' ⟨rfl, ⟨nd, rfl⟩⟩; refine ⟨_, rfl, ?_⟩) | (go_at_call 12; (with_reducible refine (real_Text.calls 9221120237041090561 t142 _ (Tabs.below HT.out (by repeat (first | (with_reducible first | exact HB.out | apply below_alloc | apply pw_below_drewN | apply below_drew1) | exact HB.out))) A5.out).mono ?_); rintro e w44 ⟨rfl, hb⟩; have n0_ := Aside0.mk (below_step (by repeat (first | (with_reducible first | exact HB.out | apply below_alloc | apply pw_below_drewN | apply below_drew1) | exact HB.out)) hb); clear HB; have HB := n0_; clear n0_; (try clear hb); (try clear hb2); (try clear hk); (try clear hi)) | (go_at_call 10; (with_reducible refine (real_Kind.calls 18442240474082181120 t143 _ A7.out).mono ?_); rintro e w' ⟨rfl, ⟨nd, rfl⟩⟩) | (go_at_call 12; (with_reducible refine (real_Text.calls 18442240474082181120 t144 _ (Tabs.below HT.out (by repeat (first | (with_reducible first | exact HB.out | apply below_alloc | apply pw_below_drewN | apply below_drew1) | exact HB.out))) A9.out).mono ?_); rintro e w45 ⟨rfl, hb⟩; have n0_ := Aside0.mk (below_step (by repeat (first | (with_reducible first | exact HB.out | apply below_alloc | apply pw_below_drewN | apply below_drew1) | exact HB.out)) hb); clear HB; have HB := n0_; clear n0_; (try clear hb); (try clear hb2); (try clear hk); (try clear hi)) | (go_at_call 12; (with_reducible refine (real_Text.calls 9223372036854775808 t145 _ (Tabs.below HT.out (by repeat (first | (with_reducible first | exact HB.out | apply below_alloc | apply pw_below_drewN | apply below_drew1) | exact HB.out))) A11.out).mono ?_); rintro e w46 ⟨rfl, hb⟩; have n0_ := Aside0.mk (below_step (by repeat (first | (with_reducible first | exact HB.out | apply below_alloc | apply pw_below_drewN | apply below_drew1) | exact HB.out)) hb); clear HB; have HB := n0_; clear n0_; (try clear hb); (try clear hb2); (try clear hk); (try clear hi)) | (go_at_call 12; (with_reducible refine (real_Text.calls 13837309855095848960 t146 _ (Tabs.below HT.out (by repeat (first | (with_reducible first | exact HB.out | apply below_alloc | apply pw_below_drewN | apply below_drew1) | exact HB.out))) A13.out).mono ?_); rintro e w47 ⟨rfl, hb⟩; have n0_ := Aside0.mk (below_step (by repeat (first | (with_reducible first | exact HB.out | apply below_alloc | apply pw_below_drewN | apply below_drew1) | exact HB.out)) hb); clear HB; have HB := n0_; clear n0_; (try clear hb); (try clear hb2); (try clear hk); (try clear hi)))
                  go_ret
                  exact ⟨by first | rfl | (simp [errW_none, errW_some] <;> rfl) | (simp [*, errW_none, errW_some] <;> rfl), by repeat (first | (with_reducible first | exact HB.out | apply below_alloc | apply pw_below_drewN | apply below_drew1) | exact HB.out)⟩
              · rw [if_neg c15] at H
                have c15b0 : (t137 == (-3)) = false := beq_eq_false_iff_ne.mpr c15
                have c15b1 : (t137 != (-3)) = true := bne_iff_ne.mpr c15
                obtain rfl := Option.some.inj H
                go_enter Tryd.func14, Tryd.ntmps14
                go_wp2_with (first | ((with_reducible refine gate_callee (f := 8) rfl ?_); refine goesL_ (some 6) rfl rfl Tryd.func8 (by kernel_rfl) rfl #[.int .u64 13837309855095848960] rfl (by (try simp only [List.map_toArray, List.map_cons, List.map_nil]); first | done | rfl | (simp only [List.length_drop, List.length_take]; rfl)) ?_; (with_reducible refine (real_Whole.calls 13837309855095848960 t137 t138 _ A1.out).mono ?_); rintro e w' ⟨rfl, ⟨nd, rfl⟩⟩; refine ⟨_, rfl, ?_⟩) | ((with_reducible refine gate_callee (f := 8) rfl ?_); refine goesL_ (some 10) rfl rfl Tryd.func8 (by kernel_rfl) rfl #[.int .u64 4602678819172646912] rfl (by (try simp only [List.map_toArray, List.map_cons, List.map_nil]); first | done | rfl | (simp only [List.length_drop, List.length_take]; rfl)) ?_; (with_reducible refine (real_Whole.calls 4602678819172646912 t139 t140 _ A2.out).mono ?_); rintro e w' ⟨rfl, ⟨nd, rfl⟩⟩; refine ⟨_, rfl, ?_⟩) | ((with_reducible refine gate_callee (f := 10) rfl ?_); refine goesL_ (some 13) rfl rfl Tryd.func10 (by kernel_rfl) rfl #[.int .u64 9221120237041090561] rfl (by (try simp only [List.map_toArray, List.map_cons, List.map_nil]); first | done | rfl | (simp only [List.length_drop, List.length_take]; rfl)) ?_; (with_reducible refine (real_Kind.calls 9221120237041090561 t141 _ A3.out).mono ?_); rintro e w' ⟨rfl, ⟨nd, rfl⟩⟩; refine ⟨_, rfl, ?_⟩) | (go_at_call 12; (with_reducible refine (real_Text.calls 9221120237041090561 t142 _ (Tabs.below HT.out (by repeat (first | (with_reducible first | exact HB.out | apply below_alloc | apply pw_below_drewN | apply below_drew1) | exact HB.out))) A5.out).mono ?_); rintro e w48 ⟨rfl, hb⟩; have n0_ := Aside0.mk (below_step (by repeat (first | (with_reducible first | exact HB.out | apply below_alloc | apply pw_below_drewN | apply below_drew1) | exact HB.out)) hb); clear HB; have HB := n0_; clear n0_; (try clear hb); (try clear hb2); (try clear hk); (try clear hi)) | (go_at_call 10; (with_reducible refine (real_Kind.calls 18442240474082181120 t143 _ A7.out).mono ?_); rintro e w' ⟨rfl, ⟨nd, rfl⟩⟩) | (go_at_call 12; (with_reducible refine (real_Text.calls 18442240474082181120 t144 _ (Tabs.below HT.out (by repeat (first | (with_reducible first | exact HB.out | apply below_alloc | apply pw_below_drewN | apply below_drew1) | exact HB.out))) A9.out).mono ?_); rintro e w49 ⟨rfl, hb⟩; have n0_ := Aside0.mk (below_step (by repeat (first | (with_reducible first | exact HB.out | apply below_alloc | apply pw_below_drewN | apply below_drew1) | exact HB.out)) hb); clear HB; have HB := n0_; clear n0_; (try clear hb); (try clear hb2); (try clear hk); (try clear hi)) | (go_at_call 12; (with_reducible refine (real_Text.calls 9223372036854775808 t145 _ (Tabs.below HT.out (by repeat (first | (with_reducible first | exact HB.out | apply below_alloc | apply pw_below_drewN | apply below_drew1) | exact HB.out))) A11.out).mono ?_); rintro e w50 ⟨rfl, hb⟩; have n0_ := Aside0.mk (below_step (by repeat (first | (with_reducible first | exact HB.out | apply below_alloc | apply pw_below_drewN | apply below_drew1) | exact HB.out)) hb); clear HB; have HB := n0_; clear n0_; (try clear hb); (try clear hb2); (try clear hk); (try clear hi)) | (go_at_call 12; (with_reducible refine (real_Text.calls 13837309855095848960 t146 _ (Tabs.below HT.out (by repeat (first | (with_reducible first | exact HB.out | apply below_alloc | apply pw_below_drewN | apply below_drew1) | exact HB.out))) A13.out).mono ?_); rintro e w51 ⟨rfl, hb⟩; have n0_ := Aside0.mk (below_step (by repeat (first | (with_reducible first | exact HB.out | apply below_alloc | apply pw_below_drewN | apply below_drew1) | exact HB.out)) hb); clear HB; have HB := n0_; clear n0_; (try clear hb); (try clear hb2); (try clear hk); (try clear hi)))
                go_ret
                exact ⟨by first | rfl | (simp [errW_none, errW_some] <;> rfl) | (simp [*, errW_none, errW_some] <;> rfl), by repeat (first | (with_reducible first | exact HB.out | apply below_alloc | apply pw_below_drewN | apply below_drew1) | exact HB.out)⟩
            · rw [if_neg c14] at H
              have c14b0 : (t146.toList == ([45, 51] : List UInt8)) = false := beq_eq_false_iff_ne.mpr c14
              have c14b1 : (t146.toList != ([45, 51] : List UInt8)) = true := bne_iff_ne.mpr c14
              obtain rfl := Option.some.inj H
              go_enter Tryd.func14, Tryd.ntmps14
              go_wp2_with (first | ((with_reducible refine gate_callee (f := 8) rfl ?_); refine goesL_ (some 6) rfl rfl Tryd.func8 (by kernel_rfl) rfl #[.int .u64 13837309855095848960] rfl (by (try simp only [List.map_toArray, List.map_cons, List.map_nil]); first | done | rfl | (simp only [List.length_drop, List.length_take]; rfl)) ?_; (with_reducible refine (real_Whole.calls 13837309855095848960 t137 t138 _ A1.out).mono ?_); rintro e w' ⟨rfl, ⟨nd, rfl⟩⟩; refine ⟨_, rfl, ?_⟩) | ((with_reducible refine gate_callee (f := 8) rfl ?_); refine goesL_ (some 10) rfl rfl Tryd.func8 (by kernel_rfl) rfl #[.int .u64 4602678819172646912] rfl (by (try simp only [List.map_toArray, List.map_cons, List.map_nil]); first | done | rfl | (simp only [List.length_drop, List.length_take]; rfl)) ?_; (with_reducible refine (real_Whole.calls 4602678819172646912 t139 t140 _ A2.out).mono ?_); rintro e w' ⟨rfl, ⟨nd, rfl⟩⟩; refine ⟨_, rfl, ?_⟩) | ((with_reducible refine gate_callee (f := 10) rfl ?_); refine goesL_ (some 13) rfl rfl Tryd.func10 (by kernel_rfl) rfl #[.int .u64 9221120237041090561] rfl (by (try simp only [List.map_toArray, List.map_cons, List.map_nil]); first | done | rfl | (simp only [List.length_drop, List.length_take]; rfl)) ?_; (with_reducible refine (real_Kind.calls 9221120237041090561 t141 _ A3.out).mono ?_); rintro e w' ⟨rfl, ⟨nd, rfl⟩⟩; refine ⟨_, rfl, ?_⟩) | (go_at_call 12; (with_reducible refine (real_Text.calls 9221120237041090561 t142 _ (Tabs.below HT.out (by repeat (first | (with_reducible first | exact HB.out | apply below_alloc | apply pw_below_drewN | apply below_drew1) | exact HB.out))) A5.out).mono ?_); rintro e w52 ⟨rfl, hb⟩; have n0_ := Aside0.mk (below_step (by repeat (first | (with_reducible first | exact HB.out | apply below_alloc | apply pw_below_drewN | apply below_drew1) | exact HB.out)) hb); clear HB; have HB := n0_; clear n0_; (try clear hb); (try clear hb2); (try clear hk); (try clear hi)) | (go_at_call 10; (with_reducible refine (real_Kind.calls 18442240474082181120 t143 _ A7.out).mono ?_); rintro e w' ⟨rfl, ⟨nd, rfl⟩⟩) | (go_at_call 12; (with_reducible refine (real_Text.calls 18442240474082181120 t144 _ (Tabs.below HT.out (by repeat (first | (with_reducible first | exact HB.out | apply below_alloc | apply pw_below_drewN | apply below_drew1) | exact HB.out))) A9.out).mono ?_); rintro e w53 ⟨rfl, hb⟩; have n0_ := Aside0.mk (below_step (by repeat (first | (with_reducible first | exact HB.out | apply below_alloc | apply pw_below_drewN | apply below_drew1) | exact HB.out)) hb); clear HB; have HB := n0_; clear n0_; (try clear hb); (try clear hb2); (try clear hk); (try clear hi)) | (go_at_call 12; (with_reducible refine (real_Text.calls 9223372036854775808 t145 _ (Tabs.below HT.out (by repeat (first | (with_reducible first | exact HB.out | apply below_alloc | apply pw_below_drewN | apply below_drew1) | exact HB.out))) A11.out).mono ?_); rintro e w54 ⟨rfl, hb⟩; have n0_ := Aside0.mk (below_step (by repeat (first | (with_reducible first | exact HB.out | apply below_alloc | apply pw_below_drewN | apply below_drew1) | exact HB.out)) hb); clear HB; have HB := n0_; clear n0_; (try clear hb); (try clear hb2); (try clear hk); (try clear hi)) | (go_at_call 12; (with_reducible refine (real_Text.calls 13837309855095848960 t146 _ (Tabs.below HT.out (by repeat (first | (with_reducible first | exact HB.out | apply below_alloc | apply pw_below_drewN | apply below_drew1) | exact HB.out))) A13.out).mono ?_); rintro e w55 ⟨rfl, hb⟩; have n0_ := Aside0.mk (below_step (by repeat (first | (with_reducible first | exact HB.out | apply below_alloc | apply pw_below_drewN | apply below_drew1) | exact HB.out)) hb); clear HB; have HB := n0_; clear n0_; (try clear hb); (try clear hb2); (try clear hk); (try clear hi)))
              go_ret
              exact ⟨by first | rfl | (simp [errW_none, errW_some] <;> rfl) | (simp [*, errW_none, errW_some] <;> rfl), by repeat (first | (with_reducible first | exact HB.out | apply below_alloc | apply pw_below_drewN | apply below_drew1) | exact HB.out)⟩
          · rw [if_neg c12] at H
            have c12b0 : (t145.toList == ([45, 48] : List UInt8)) = false := beq_eq_false_iff_ne.mpr c12
            have c12b1 : (t145.toList != ([45, 48] : List UInt8)) = true := bne_iff_ne.mpr c12
            obtain rfl := Option.some.inj H
            go_enter Tryd.func14, Tryd.ntmps14
            go_wp2_with (first | ((with_reducible refine gate_callee (f := 8) rfl ?_); refine goesL_ (some 6) rfl rfl Tryd.func8 (by kernel_rfl) rfl #[.int .u64 13837309855095848960] rfl (by (try simp only [List.map_toArray, List.map_cons, List.map_nil]); first | done | rfl | (simp only [List.length_drop, List.length_take]; rfl)) ?_; (with_reducible refine (real_Whole.calls 13837309855095848960 t137 t138 _ A1.out).mono ?_); rintro e w' ⟨rfl, ⟨nd, rfl⟩⟩; refine ⟨_, rfl, ?_⟩) | ((with_reducible refine gate_callee (f := 8) rfl ?_); refine goesL_ (some 10) rfl rfl Tryd.func8 (by kernel_rfl) rfl #[.int .u64 4602678819172646912] rfl (by (try simp only [List.map_toArray, List.map_cons, List.map_nil]); first | done | rfl | (simp only [List.length_drop, List.length_take]; rfl)) ?_; (with_reducible refine (real_Whole.calls 4602678819172646912 t139 t140 _ A2.out).mono ?_); rintro e w' ⟨rfl, ⟨nd, rfl⟩⟩; refine ⟨_, rfl, ?_⟩) | ((with_reducible refine gate_callee (f := 10) rfl ?_); refine goesL_ (some 13) rfl rfl Tryd.func10 (by kernel_rfl) rfl #[.int .u64 9221120237041090561] rfl (by (try simp only [List.map_toArray, List.map_cons, List.map_nil]); first | done | rfl | (simp only [List.length_drop, List.length_take]; rfl)) ?_; (with_reducible refine (real_Kind.calls 9221120237041090561 t141 _ A3.out).mono ?_); rintro e w' ⟨rfl, ⟨nd, rfl⟩⟩; refine ⟨_, rfl, ?_⟩) | (go_at_call 12; (with_reducible refine (real_Text.calls 9221120237041090561 t142 _ (Tabs.below HT.out (by repeat (first | (with_reducible first | exact HB.out | apply below_alloc | apply pw_below_drewN | apply below_drew1) | exact HB.out))) A5.out).mono ?_); rintro e w56 ⟨rfl, hb⟩; have n0_ := Aside0.mk (below_step (by repeat (first | (with_reducible first | exact HB.out | apply below_alloc | apply pw_below_drewN | apply below_drew1) | exact HB.out)) hb); clear HB; have HB := n0_; clear n0_; (try clear hb); (try clear hb2); (try clear hk); (try clear hi)) | (go_at_call 10; (with_reducible refine (real_Kind.calls 18442240474082181120 t143 _ A7.out).mono ?_); rintro e w' ⟨rfl, ⟨nd, rfl⟩⟩) | (go_at_call 12; (with_reducible refine (real_Text.calls 18442240474082181120 t144 _ (Tabs.below HT.out (by repeat (first | (with_reducible first | exact HB.out | apply below_alloc | apply pw_below_drewN | apply below_drew1) | exact HB.out))) A9.out).mono ?_); rintro e w57 ⟨rfl, hb⟩; have n0_ := Aside0.mk (below_step (by repeat (first | (with_reducible first | exact HB.out | apply below_alloc | apply pw_below_drewN | apply below_drew1) | exact HB.out)) hb); clear HB; have HB := n0_; clear n0_; (try clear hb); (try clear hb2); (try clear hk); (try clear hi)) | (go_at_call 12; (with_reducible refine (real_Text.calls 9223372036854775808 t145 _ (Tabs.below HT.out (by repeat (first | (with_reducible first | exact HB.out | apply below_alloc | apply pw_below_drewN | apply below_drew1) | exact HB.out))) A11.out).mono ?_); rintro e w58 ⟨rfl, hb⟩; have n0_ := Aside0.mk (below_step (by repeat (first | (with_reducible first | exact HB.out | apply below_alloc | apply pw_below_drewN | apply below_drew1) | exact HB.out)) hb); clear HB; have HB := n0_; clear n0_; (try clear hb); (try clear hb2); (try clear hk); (try clear hi)))
            go_ret
            exact ⟨by first | rfl | (simp [errW_none, errW_some] <;> rfl) | (simp [*, errW_none, errW_some] <;> rfl), by repeat (first | (with_reducible first | exact HB.out | apply below_alloc | apply pw_below_drewN | apply below_drew1) | exact HB.out)⟩
        · rw [if_neg c10] at H
          have c10b0 : (t144.toList == ([45, 73, 110, 102, 105, 110, 105, 116, 121] : List UInt8)) = false := beq_eq_false_iff_ne.mpr c10
          have c10b1 : (t144.toList != ([45, 73, 110, 102, 105, 110, 105, 116, 121] : List UInt8)) = true := bne_iff_ne.mpr c10
          obtain rfl := Option.some.inj H
          go_enter Tryd.func14, Tryd.ntmps14
          go_wp2_with (first | ((with_reducible refine gate_callee (f := 8) rfl ?_); refine goesL_ (some 6) rfl rfl Tryd.func8 (by kernel_rfl) rfl #[.int .u64 13837309855095848960] rfl (by (try simp only [List.map_toArray, List.map_cons, List.map_nil]); first | done | rfl | (simp only [List.length_drop, List.length_take]; rfl)) ?_; (with_reducible refine (real_Whole.calls 13837309855095848960 t137 t138 _ A1.out).mono ?_); rintro e w' ⟨rfl, ⟨nd, rfl⟩⟩; refine ⟨_, rfl, ?_⟩) | ((with_reducible refine gate_callee (f := 8) rfl ?_); refine goesL_ (some 10) rfl rfl Tryd.func8 (by kernel_rfl) rfl #[.int .u64 4602678819172646912] rfl (by (try simp only [List.map_toArray, List.map_cons, List.map_nil]); first | done | rfl | (simp only [List.length_drop, List.length_take]; rfl)) ?_; (with_reducible refine (real_Whole.calls 4602678819172646912 t139 t140 _ A2.out).mono ?_); rintro e w' ⟨rfl, ⟨nd, rfl⟩⟩; refine ⟨_, rfl, ?_⟩) | ((with_reducible refine gate_callee (f := 10) rfl ?_); refine goesL_ (some 13) rfl rfl Tryd.func10 (by kernel_rfl) rfl #[.int .u64 9221120237041090561] rfl (by (try simp only [List.map_toArray, List.map_cons, List.map_nil]); first | done | rfl | (simp only [List.length_drop, List.length_take]; rfl)) ?_; (with_reducible refine (real_Kind.calls 9221120237041090561 t141 _ A3.out).mono ?_); rintro e w' ⟨rfl, ⟨nd, rfl⟩⟩; refine ⟨_, rfl, ?_⟩) | (go_at_call 12; (with_reducible refine (real_Text.calls 9221120237041090561 t142 _ (Tabs.below HT.out (by repeat (first | (with_reducible first | exact HB.out | apply below_alloc | apply pw_below_drewN | apply below_drew1) | exact HB.out))) A5.out).mono ?_); rintro e w59 ⟨rfl, hb⟩; have n0_ := Aside0.mk (below_step (by repeat (first | (with_reducible first | exact HB.out | apply below_alloc | apply pw_below_drewN | apply below_drew1) | exact HB.out)) hb); clear HB; have HB := n0_; clear n0_; (try clear hb); (try clear hb2); (try clear hk); (try clear hi)) | (go_at_call 10; (with_reducible refine (real_Kind.calls 18442240474082181120 t143 _ A7.out).mono ?_); rintro e w' ⟨rfl, ⟨nd, rfl⟩⟩) | (go_at_call 12; (with_reducible refine (real_Text.calls 18442240474082181120 t144 _ (Tabs.below HT.out (by repeat (first | (with_reducible first | exact HB.out | apply below_alloc | apply pw_below_drewN | apply below_drew1) | exact HB.out))) A9.out).mono ?_); rintro e w60 ⟨rfl, hb⟩; have n0_ := Aside0.mk (below_step (by repeat (first | (with_reducible first | exact HB.out | apply below_alloc | apply pw_below_drewN | apply below_drew1) | exact HB.out)) hb); clear HB; have HB := n0_; clear n0_; (try clear hb); (try clear hb2); (try clear hk); (try clear hi)))
          go_ret
          exact ⟨by first | rfl | (simp [errW_none, errW_some] <;> rfl) | (simp [*, errW_none, errW_some] <;> rfl), by repeat (first | (with_reducible first | exact HB.out | apply below_alloc | apply pw_below_drewN | apply below_drew1) | exact HB.out)⟩
      · rw [if_neg c8] at H
        have c8b0 : (t143 == 1) = false := beq_eq_false_iff_ne.mpr c8
        have c8b1 : (t143 != 1) = true := bne_iff_ne.mpr c8
        obtain rfl := Option.some.inj H
        go_enter Tryd.func14, Tryd.ntmps14
        go_wp2_with (first | ((with_reducible refine gate_callee (f := 8) rfl ?_); refine goesL_ (some 6) rfl rfl Tryd.func8 (by kernel_rfl) rfl #[.int .u64 13837309855095848960] rfl (by (try simp only [List.map_toArray, List.map_cons, List.map_nil]); first | done | rfl | (simp only [List.length_drop, List.length_take]; rfl)) ?_; (with_reducible refine (real_Whole.calls 13837309855095848960 t137 t138 _ A1.out).mono ?_); rintro e w' ⟨rfl, ⟨nd, rfl⟩⟩; refine ⟨_, rfl, ?_⟩) | ((with_reducible refine gate_callee (f := 8) rfl ?_); refine goesL_ (some 10) rfl rfl Tryd.func8 (by kernel_rfl) rfl #[.int .u64 4602678819172646912] rfl (by (try simp only [List.map_toArray, List.map_cons, List.map_nil]); first | done | rfl | (simp only [List.length_drop, List.length_take]; rfl)) ?_; (with_reducible refine (real_Whole.calls 4602678819172646912 t139 t140 _ A2.out).mono ?_); rintro e w' ⟨rfl, ⟨nd, rfl⟩⟩; refine ⟨_, rfl, ?_⟩) | ((with_reducible refine gate_callee (f := 10) rfl ?_); refine goesL_ (some 13) rfl rfl Tryd.func10 (by kernel_rfl) rfl #[.int .u64 9221120237041090561] rfl (by (try simp only [List.map_toArray, List.map_cons, List.map_nil]); first | done | rfl | (simp only [List.length_drop, List.length_take]; rfl)) ?_; (with_reducible refine (real_Kind.calls 9221120237041090561 t141 _ A3.out).mono ?_); rintro e w' ⟨rfl, ⟨nd, rfl⟩⟩; refine ⟨_, rfl, ?_⟩) | (go_at_call 12; (with_reducible refine (real_Text.calls 9221120237041090561 t142 _ (Tabs.below HT.out (by repeat (first | (with_reducible first | exact HB.out | apply below_alloc | apply pw_below_drewN | apply below_drew1) | exact HB.out))) A5.out).mono ?_); rintro e w61 ⟨rfl, hb⟩; have n0_ := Aside0.mk (below_step (by repeat (first | (with_reducible first | exact HB.out | apply below_alloc | apply pw_below_drewN | apply below_drew1) | exact HB.out)) hb); clear HB; have HB := n0_; clear n0_; (try clear hb); (try clear hb2); (try clear hk); (try clear hi)) | (go_at_call 10; (with_reducible refine (real_Kind.calls 18442240474082181120 t143 _ A7.out).mono ?_); rintro e w' ⟨rfl, ⟨nd, rfl⟩⟩))
        go_ret
        exact ⟨by first | rfl | (simp [errW_none, errW_some] <;> rfl) | (simp [*, errW_none, errW_some] <;> rfl), by repeat (first | (with_reducible first | exact HB.out | apply below_alloc | apply pw_below_drewN | apply below_drew1) | exact HB.out)⟩
    · rw [if_neg c6] at H
      have c6b0 : (t142.toList == ([78, 97, 78] : List UInt8)) = false := beq_eq_false_iff_ne.mpr c6
      have c6b1 : (t142.toList != ([78, 97, 78] : List UInt8)) = true := bne_iff_ne.mpr c6
      obtain rfl := Option.some.inj H
      go_enter Tryd.func14, Tryd.ntmps14
      go_wp2_with (first | ((with_reducible refine gate_callee (f := 8) rfl ?_); refine goesL_ (some 6) rfl rfl Tryd.func8 (by kernel_rfl) rfl #[.int .u64 13837309855095848960] rfl (by (try simp only [List.map_toArray, List.map_cons, List.map_nil]); first | done | rfl | (simp only [List.length_drop, List.length_take]; rfl)) ?_; (with_reducible refine (real_Whole.calls 13837309855095848960 t137 t138 _ A1.out).mono ?_); rintro e w' ⟨rfl, ⟨nd, rfl⟩⟩; refine ⟨_, rfl, ?_⟩) | ((with_reducible refine gate_callee (f := 8) rfl ?_); refine goesL_ (some 10) rfl rfl Tryd.func8 (by kernel_rfl) rfl #[.int .u64 4602678819172646912] rfl (by (try simp only [List.map_toArray, List.map_cons, List.map_nil]); first | done | rfl | (simp only [List.length_drop, List.length_take]; rfl)) ?_; (with_reducible refine (real_Whole.calls 4602678819172646912 t139 t140 _ A2.out).mono ?_); rintro e w' ⟨rfl, ⟨nd, rfl⟩⟩; refine ⟨_, rfl, ?_⟩) | ((with_reducible refine gate_callee (f := 10) rfl ?_); refine goesL_ (some 13) rfl rfl Tryd.func10 (by kernel_rfl) rfl #[.int .u64 9221120237041090561] rfl (by (try simp only [List.map_toArray, List.map_cons, List.map_nil]); first | done | rfl | (simp only [List.length_drop, List.length_take]; rfl)) ?_; (with_reducible refine (real_Kind.calls 9221120237041090561 t141 _ A3.out).mono ?_); rintro e w' ⟨rfl, ⟨nd, rfl⟩⟩; refine ⟨_, rfl, ?_⟩) | (go_at_call 12; (with_reducible refine (real_Text.calls 9221120237041090561 t142 _ (Tabs.below HT.out (by repeat (first | (with_reducible first | exact HB.out | apply below_alloc | apply pw_below_drewN | apply below_drew1) | exact HB.out))) A5.out).mono ?_); rintro e w62 ⟨rfl, hb⟩; have n0_ := Aside0.mk (below_step (by repeat (first | (with_reducible first | exact HB.out | apply below_alloc | apply pw_below_drewN | apply below_drew1) | exact HB.out)) hb); clear HB; have HB := n0_; clear n0_; (try clear hb); (try clear hb2); (try clear hk); (try clear hi)))
      go_ret
      exact ⟨by first | rfl | (simp [errW_none, errW_some] <;> rfl) | (simp [*, errW_none, errW_some] <;> rfl), by repeat (first | (with_reducible first | exact HB.out | apply below_alloc | apply pw_below_drewN | apply below_drew1) | exact HB.out)⟩
  · rw [if_neg c4] at H
    have c4b0 : (t141 == 0) = false := beq_eq_false_iff_ne.mpr c4
    have c4b1 : (t141 != 0) = true := bne_iff_ne.mpr c4
    obtain rfl := Option.some.inj H
    go_enter Tryd.func14, Tryd.ntmps14
    go_wp2_with (first | ((with_reducible refine gate_callee (f := 8) rfl ?_); refine goesL_ (some 6) rfl rfl Tryd.func8 (by kernel_rfl) rfl #[.int .u64 13837309855095848960] rfl (by (try simp only [List.map_toArray, List.map_cons, List.map_nil]); first | done | rfl | (simp only [List.length_drop, List.length_take]; rfl)) ?_; (with_reducible refine (real_Whole.calls 13837309855095848960 t137 t138 _ A1.out).mono ?_); rintro e w' ⟨rfl, ⟨nd, rfl⟩⟩; refine ⟨_, rfl, ?_⟩) | ((with_reducible refine gate_callee (f := 8) rfl ?_); refine goesL_ (some 10) rfl rfl Tryd.func8 (by kernel_rfl) rfl #[.int .u64 4602678819172646912] rfl (by (try simp only [List.map_toArray, List.map_cons, List.map_nil]); first | done | rfl | (simp only [List.length_drop, List.length_take]; rfl)) ?_; (with_reducible refine (real_Whole.calls 4602678819172646912 t139 t140 _ A2.out).mono ?_); rintro e w' ⟨rfl, ⟨nd, rfl⟩⟩; refine ⟨_, rfl, ?_⟩) | ((with_reducible refine gate_callee (f := 10) rfl ?_); refine goesL_ (some 13) rfl rfl Tryd.func10 (by kernel_rfl) rfl #[.int .u64 9221120237041090561] rfl (by (try simp only [List.map_toArray, List.map_cons, List.map_nil]); first | done | rfl | (simp only [List.length_drop, List.length_take]; rfl)) ?_; (with_reducible refine (real_Kind.calls 9221120237041090561 t141 _ A3.out).mono ?_); rintro e w' ⟨rfl, ⟨nd, rfl⟩⟩; refine ⟨_, rfl, ?_⟩))
    go_ret
    exact ⟨by first | rfl | (simp [errW_none, errW_some] <;> rfl) | (simp [*, errW_none, errW_some] <;> rfl), by repeat (first | (with_reducible first | exact HB.out | apply below_alloc | apply pw_below_drewN | apply below_drew1) | exact HB.out)⟩

/-! ### stolelaw3_Reals: function 3 -/
def stolelaw3_Reals.f (k : Nat) (a0 : Int) : Option (Bool) := (real_Whole.f a0).bind fun bt150 => ((stoleref1_Whole.f k a0).bind fun bt152 => ((real_Kind.f a0).bind fun t154 => ((stoleref1_Real.f k a0).bind fun t155 => (if t154 = t155 then ((real_Text.f a0).bind fun t156 => ((stoleref1_RealText.f k a0).bind fun t157 => (if t156.toList = t157.toList then (if bt150.1 = bt152.1 then (if (bt150.2 == bt152.2) = true then ((stolelaw3_awake.f).bind fun t158 => (some t158)) else (some false)) else (some false)) else (some false)))) else (some false)))))
theorem stolelaw3_Reals.mono : ∀ a0 k, LeO (stolelaw3_Reals.f k a0) (stolelaw3_Reals.f (k + 1) a0) := by
  intro a0 k
  unfold stolelaw3_Reals.f
  repeat' first
      | (with_reducible exact stoleref1_Real.mono _ _)
      | (with_reducible exact stoleref1_RealText.mono _ _)
      | (with_reducible exact stoleref1_Whole.mono _ _)
      | (with_reducible exact LeO.refl _)
      | (with_reducible exact LeO.none _)
      | (with_reducible refine LeO.ite ?_ ?_)
      | (with_reducible refine LeO.bind ?_ (fun _ => ?_))
      | exact stoleref1_Real.mono _ _
      | exact stoleref1_RealText.mono _ _
      | exact stoleref1_Whole.mono _ _
      | exact LeO.none _
      | refine LeO.ite ?_ ?_
      | refine LeO.bind ?_ (fun _ => ?_)
set_option maxHeartbeats 8000000 in
set_option maxRecDepth 100000 in
theorem stolelaw3_Reals.calls (k : Nat) (a0 : Int) (r : Bool) (w : World) (hT : Tabs w) (h : stolelaw3_Reals.f k a0 = some r) :
    Calls Tryd.prog 3 #[.int .u64 a0] w fun e w' => e = .returned (.bool r) ∧ Below w.heap.size w w' := by
  have HT := Aside0.mk hT
  clear hT
  have HB := Aside0.mk (Below.refl w.heap.size w)
  have H : ((real_Whole.f a0).bind fun bt150 => ((stoleref1_Whole.f k a0).bind fun bt152 => ((real_Kind.f a0).bind fun t154 => ((stoleref1_Real.f k a0).bind fun t155 => (if t154 = t155 then ((real_Text.f a0).bind fun t156 => ((stoleref1_RealText.f k a0).bind fun t157 => (if t156.toList = t157.toList then (if bt150.1 = bt152.1 then (if (bt150.2 == bt152.2) = true then ((stolelaw3_awake.f).bind fun t158 => (some t158)) else (some false)) else (some false)) else (some false)))) else (some false)))))) = some r := h
  clear h
  replace H := Option.bind_eq_some_iff.mp H
  obtain ⟨⟨t150, t151⟩, A20, H⟩ := H
  replace H : ((stoleref1_Whole.f k a0).bind fun bt152 => ((real_Kind.f a0).bind fun t154 => ((stoleref1_Real.f k a0).bind fun t155 => (if t154 = t155 then ((real_Text.f a0).bind fun t156 => ((stoleref1_RealText.f k a0).bind fun t157 => (if t156.toList = t157.toList then (if t150 = bt152.1 then (if (t151 == bt152.2) = true then ((stolelaw3_awake.f).bind fun t158 => (some t158)) else (some false)) else (some false)) else (some false)))) else (some false))))) = some r := H
  have A2 := Aside0.mk A20
  clear A20
  replace H := Option.bind_eq_some_iff.mp H
  obtain ⟨⟨t152, t153⟩, A30, H⟩ := H
  replace H : ((real_Kind.f a0).bind fun t154 => ((stoleref1_Real.f k a0).bind fun t155 => (if t154 = t155 then ((real_Text.f a0).bind fun t156 => ((stoleref1_RealText.f k a0).bind fun t157 => (if t156.toList = t157.toList then (if t150 = t152 then (if (t151 == t153) = true then ((stolelaw3_awake.f).bind fun t158 => (some t158)) else (some false)) else (some false)) else (some false)))) else (some false)))) = some r := H
  have A3 := Aside0.mk A30
  clear A30
  replace H := Option.bind_eq_some_iff.mp H
  obtain ⟨t154, A40, H⟩ := H
  replace H : ((stoleref1_Real.f k a0).bind fun t155 => (if t154 = t155 then ((real_Text.f a0).bind fun t156 => ((stoleref1_RealText.f k a0).bind fun t157 => (if t156.toList = t157.toList then (if t150 = t152 then (if (t151 == t153) = true then ((stolelaw3_awake.f).bind fun t158 => (some t158)) else (some false)) else (some false)) else (some false)))) else (some false))) = some r := H
  have A4 := Aside0.mk A40
  clear A40
  replace H := Option.bind_eq_some_iff.mp H
  obtain ⟨t155, A50, H⟩ := H
  replace H : (if t154 = t155 then ((real_Text.f a0).bind fun t156 => ((stoleref1_RealText.f k a0).bind fun t157 => (if t156.toList = t157.toList then (if t150 = t152 then (if (t151 == t153) = true then ((stolelaw3_awake.f).bind fun t158 => (some t158)) else (some false)) else (some false)) else (some false)))) else (some false)) = some r := H
  have A5 := Aside0.mk A50
  clear A50
  by_cases c6 : t154 = t155
  · rw [if_pos c6] at H
    have c6b0 : (t154 == t155) = true := beq_iff_eq.mpr c6
    have c6b1 : (t154 != t155) = false := bne_eq_false_iff_eq.mpr c6
    clear c6
    replace H := Option.bind_eq_some_iff.mp H
    obtain ⟨t156, A70, H⟩ := H
    replace H : ((stoleref1_RealText.f k a0).bind fun t157 => (if t156.toList = t157.toList then (if t150 = t152 then (if (t151 == t153) = true then ((stolelaw3_awake.f).bind fun t158 => (some t158)) else (some false)) else (some false)) else (some false))) = some r := H
    have A7 := Aside0.mk A70
    clear A70
    replace H := Option.bind_eq_some_iff.mp H
    obtain ⟨t157, A80, H⟩ := H
    replace H : (if t156.toList = t157.toList then (if t150 = t152 then (if (t151 == t153) = true then ((stolelaw3_awake.f).bind fun t158 => (some t158)) else (some false)) else (some false)) else (some false)) = some r := H
    have A8 := Aside0.mk A80
    clear A80
    by_cases c9 : t156.toList = t157.toList
    · rw [if_pos c9] at H
      have c9b0 : (t156.toList == t157.toList) = true := beq_iff_eq.mpr c9
      have c9b1 : (t156.toList != t157.toList) = false := bne_eq_false_iff_eq.mpr c9
      clear c9
      by_cases c10 : t150 = t152
      · rw [if_pos c10] at H
        have c10b0 : (t150 == t152) = true := beq_iff_eq.mpr c10
        have c10b1 : (t150 != t152) = false := bne_eq_false_iff_eq.mpr c10
        clear c10
        by_cases c11 : (t151 == t153) = true
        · rw [if_pos c11] at H
          have c11b0 : (t151 == t153) = true := c11
          (try (have c11b1 : decide (t151 = t153) = true := by simpa using c11))
          (try (have c11b2 : (t151 == t153) = true := by simpa using c11))
          clear c11
          replace H := Option.bind_eq_some_iff.mp H
          obtain ⟨t158, A120, H⟩ := H
          replace H : (some t158) = some r := H
          have A12 := Aside0.mk A120
          clear A120
          obtain rfl := Option.some.inj H
          go_enter Tryd.func3, Tryd.ntmps3
          go_wp2_with (first | ((with_reducible refine gate_callee (f := 8) rfl ?_); refine goesL_ (some 9) rfl rfl Tryd.func8 (by kernel_rfl) rfl #[.int .u64 a0] rfl (by (try simp only [List.map_toArray, List.map_cons, List.map_nil]); first | done | rfl | (simp only [List.length_drop, List.length_take]; rfl)) ?_; (with_reducible refine (real_Whole.calls a0 t150 t151 _ A2.out).mono ?_); rintro e w' ⟨rfl, ⟨nd, rfl⟩⟩; refine ⟨_, rfl, ?_⟩) | ((with_reducible refine gate_callee (f := 9) rfl ?_); refine goesL_ (some 14) rfl rfl Tryd.func9 (by kernel_rfl) rfl #[.int .u64 a0] rfl (by (try simp only [List.map_toArray, List.map_cons, List.map_nil]); first | done | rfl | (simp only [List.length_drop, List.length_take]; rfl)) ?_; (with_reducible refine (stoleref1_Whole.calls k a0 t152 t153 _ A3.out).mono ?_); rintro e w' ⟨rfl, ⟨nd, rfl⟩⟩; refine ⟨_, rfl, ?_⟩) | ((with_reducible refine gate_callee (f := 10) rfl ?_); refine goesL_ (some 18) rfl rfl Tryd.func10 (by kernel_rfl) rfl #[.int .u64 a0] rfl (by (try simp only [List.map_toArray, List.map_cons, List.map_nil]); first | done | rfl | (simp only [List.length_drop, List.length_take]; rfl)) ?_; (with_reducible refine (real_Kind.calls a0 t154 _ A4.out).mono ?_); rintro e w' ⟨rfl, ⟨nd, rfl⟩⟩; refine ⟨_, rfl, ?_⟩) | ((with_reducible refine gate_callee (f := 11) rfl ?_); refine goesL_ (some 20) rfl rfl Tryd.func11 (by kernel_rfl) rfl #[.int .u64 a0] rfl (by (try simp only [List.map_toArray, List.map_cons, List.map_nil]); first | done | rfl | (simp only [List.length_drop, List.length_take]; rfl)) ?_; (with_reducible refine (stoleref1_Real.calls k a0 t155 _ A5.out).mono ?_); rintro e w' ⟨rfl, ⟨nd, rfl⟩⟩; refine ⟨_, rfl, ?_⟩) | (go_at_call 12; (with_reducible refine (real_Text.calls a0 t156 _ (Tabs.below HT.out (by repeat (first | (with_reducible first | exact HB.out | apply below_alloc | apply pw_below_drewN | apply below_drew1) | exact HB.out))) A7.out).mono ?_); rintro e w13 ⟨rfl, hb⟩; have n0_ := Aside0.mk (below_step (by repeat (first | (with_reducible first | exact HB.out | apply below_alloc | apply pw_below_drewN | apply below_drew1) | exact HB.out)) hb); clear HB; have HB := n0_; clear n0_; (try clear hb); (try clear hb2); (try clear hk); (try clear hi)) | (go_at_call 13; (with_reducible refine (stoleref1_RealText.calls k a0 t157 _ A8.out).mono ?_); rintro e w14 ⟨rfl, hb⟩; have n0_ := Aside0.mk (below_step (by repeat (first | (with_reducible first | exact HB.out | apply below_alloc | apply pw_below_drewN | apply below_drew1) | exact HB.out)) hb); clear HB; have HB := n0_; clear n0_; (try clear hb); (try clear hb2); (try clear hk); (try clear hi)) | (go_at_call 14; (with_reducible refine (stolelaw3_awake.calls  t158 _ (Tabs.below HT.out (by repeat (first | (with_reducible first | exact HB.out | apply below_alloc | apply pw_below_drewN | apply below_drew1) | exact HB.out))) A12.out).mono ?_); rintro e w15 ⟨rfl, hb⟩; have n0_ := Aside0.mk (below_step (by repeat (first | (with_reducible first | exact HB.out | apply below_alloc | apply pw_below_drewN | apply below_drew1) | exact HB.out)) hb); clear HB; have HB := n0_; clear n0_; (try clear hb); (try clear hb2); (try clear hk); (try clear hi)))
          go_ret
          exact ⟨by first | rfl | (simp [errW_none, errW_some] <;> rfl) | (simp [*, errW_none, errW_some] <;> rfl), by repeat (first | (with_reducible first | exact HB.out | apply below_alloc | apply pw_below_drewN | apply below_drew1) | exact HB.out)⟩
        · rw [if_neg c11] at H
          have c11b0 : (t151 == t153) = false := by simpa using c11
          (try (have c11b1 : decide (t151 = t153) = false := by simpa using c11))
          (try (have c11b2 : (t151 == t153) = false := by simpa using c11))
          (try (have c11b3 : ¬ (t151 = t153) := by simpa using c11))
          clear c11
          obtain rfl := Option.some.inj H
          go_enter Tryd.func3, Tryd.ntmps3
          go_wp2_with (first | ((with_reducible refine gate_callee (f := 8) rfl ?_); refine goesL_ (some 9) rfl rfl Tryd.func8 (by kernel_rfl) rfl #[.int .u64 a0] rfl (by (try simp only [List.map_toArray, List.map_cons, List.map_nil]); first | done | rfl | (simp only [List.length_drop, List.length_take]; rfl)) ?_; (with_reducible refine (real_Whole.calls a0 t150 t151 _ A2.out).mono ?_); rintro e w' ⟨rfl, ⟨nd, rfl⟩⟩; refine ⟨_, rfl, ?_⟩) | ((with_reducible refine gate_callee (f := 9) rfl ?_); refine goesL_ (some 14) rfl rfl Tryd.func9 (by kernel_rfl) rfl #[.int .u64 a0] rfl (by (try simp only [List.map_toArray, List.map_cons, List.map_nil]); first | done | rfl | (simp only [List.length_drop, List.length_take]; rfl)) ?_; (with_reducible refine (stoleref1_Whole.calls k a0 t152 t153 _ A3.out).mono ?_); rintro e w' ⟨rfl, ⟨nd, rfl⟩⟩; refine ⟨_, rfl, ?_⟩) | ((with_reducible refine gate_callee (f := 10) rfl ?_); refine goesL_ (some 18) rfl rfl Tryd.func10 (by kernel_rfl) rfl #[.int .u64 a0] rfl (by (try simp only [List.map_toArray, List.map_cons, List.map_nil]); first | done | rfl | (simp only [List.length_drop, List.length_take]; rfl)) ?_; (with_reducible refine (real_Kind.calls a0 t154 _ A4.out).mono ?_); rintro e w' ⟨rfl, ⟨nd, rfl⟩⟩; refine ⟨_, rfl, ?_⟩) | ((with_reducible refine gate_callee (f := 11) rfl ?_); refine goesL_ (some 20) rfl rfl Tryd.func11 (by kernel_rfl) rfl #[.int .u64 a0] rfl (by (try simp only [List.map_toArray, List.map_cons, List.map_nil]); first | done | rfl | (simp only [List.length_drop, List.length_take]; rfl)) ?_; (with_reducible refine (stoleref1_Real.calls k a0 t155 _ A5.out).mono ?_); rintro e w' ⟨rfl, ⟨nd, rfl⟩⟩; refine ⟨_, rfl, ?_⟩) | (go_at_call 12; (with_reducible refine (real_Text.calls a0 t156 _ (Tabs.below HT.out (by repeat (first | (with_reducible first | exact HB.out | apply below_alloc | apply pw_below_drewN | apply below_drew1) | exact HB.out))) A7.out).mono ?_); rintro e w16 ⟨rfl, hb⟩; have n0_ := Aside0.mk (below_step (by repeat (first | (with_reducible first | exact HB.out | apply below_alloc | apply pw_below_drewN | apply below_drew1) | exact HB.out)) hb); clear HB; have HB := n0_; clear n0_; (try clear hb); (try clear hb2); (try clear hk); (try clear hi)) | (go_at_call 13; (with_reducible refine (stoleref1_RealText.calls k a0 t157 _ A8.out).mono ?_); rintro e w17 ⟨rfl, hb⟩; have n0_ := Aside0.mk (below_step (by repeat (first | (with_reducible first | exact HB.out | apply below_alloc | apply pw_below_drewN | apply below_drew1) | exact HB.out)) hb); clear HB; have HB := n0_; clear n0_; (try clear hb); (try clear hb2); (try clear hk); (try clear hi)))
          go_ret
          exact ⟨by first | rfl | (simp [errW_none, errW_some] <;> rfl) | (simp [*, errW_none, errW_some] <;> rfl), by repeat (first | (with_reducible first | exact HB.out | apply below_alloc | apply pw_below_drewN | apply below_drew1) | exact HB.out)⟩
      · rw [if_neg c10] at H
        have c10b0 : (t150 == t152) = false := beq_eq_false_iff_ne.mpr c10
        have c10b1 : (t150 != t152) = true := bne_iff_ne.mpr c10
        obtain rfl := Option.some.inj H
        go_enter Tryd.func3, Tryd.ntmps3
        go_wp2_with (first | ((with_reducible refine gate_callee (f := 8) rfl ?_); refine goesL_ (some 9) rfl rfl Tryd.func8 (by kernel_rfl) rfl #[.int .u64 a0] rfl (by (try simp only [List.map_toArray, List.map_cons, List.map_nil]); first | done | rfl | (simp only [List.length_drop, List.length_take]; rfl)) ?_; (with_reducible refine (real_Whole.calls a0 t150 t151 _ A2.out).mono ?_); rintro e w' ⟨rfl, ⟨nd, rfl⟩⟩; refine ⟨_, rfl, ?_⟩) | ((with_reducible refine gate_callee (f := 9) rfl ?_); refine goesL_ (some 14) rfl rfl Tryd.func9 (by kernel_rfl) rfl #[.int .u64 a0] rfl (by (try simp only [List.map_toArray, List.map_cons, List.map_nil]); first | done | rfl | (simp only [List.length_drop, List.length_take]; rfl)) ?_; (with_reducible refine (stoleref1_Whole.calls k a0 t152 t153 _ A3.out).mono ?_); rintro e w' ⟨rfl, ⟨nd, rfl⟩⟩; refine ⟨_, rfl, ?_⟩) | ((with_reducible refine gate_callee (f := 10) rfl ?_); refine goesL_ (some 18) rfl rfl Tryd.func10 (by kernel_rfl) rfl #[.int .u64 a0] rfl (by (try simp only [List.map_toArray, List.map_cons, List.map_nil]); first | done | rfl | (simp only [List.length_drop, List.length_take]; rfl)) ?_; (with_reducible refine (real_Kind.calls a0 t154 _ A4.out).mono ?_); rintro e w' ⟨rfl, ⟨nd, rfl⟩⟩; refine ⟨_, rfl, ?_⟩) | ((with_reducible refine gate_callee (f := 11) rfl ?_); refine goesL_ (some 20) rfl rfl Tryd.func11 (by kernel_rfl) rfl #[.int .u64 a0] rfl (by (try simp only [List.map_toArray, List.map_cons, List.map_nil]); first | done | rfl | (simp only [List.length_drop, List.length_take]; rfl)) ?_; (with_reducible refine (stoleref1_Real.calls k a0 t155 _ A5.out).mono ?_); rintro e w' ⟨rfl, ⟨nd, rfl⟩⟩; refine ⟨_, rfl, ?_⟩) | (go_at_call 12; (with_reducible refine (real_Text.calls a0 t156 _ (Tabs.below HT.out (by repeat (first | (with_reducible first | exact HB.out | apply below_alloc | apply pw_below_drewN | apply below_drew1) | exact HB.out))) A7.out).mono ?_); rintro e w18 ⟨rfl, hb⟩; have n0_ := Aside0.mk (below_step (by repeat (first | (with_reducible first | exact HB.out | apply below_alloc | apply pw_below_drewN | apply below_drew1) | exact HB.out)) hb); clear HB; have HB := n0_; clear n0_; (try clear hb); (try clear hb2); (try clear hk); (try clear hi)) | (go_at_call 13; (with_reducible refine (stoleref1_RealText.calls k a0 t157 _ A8.out).mono ?_); rintro e w19 ⟨rfl, hb⟩; have n0_ := Aside0.mk (below_step (by repeat (first | (with_reducible first | exact HB.out | apply below_alloc | apply pw_below_drewN | apply below_drew1) | exact HB.out)) hb); clear HB; have HB := n0_; clear n0_; (try clear hb); (try clear hb2); (try clear hk); (try clear hi)))
        go_ret
        exact ⟨by first | rfl | (simp [errW_none, errW_some] <;> rfl) | (simp [*, errW_none, errW_some] <;> rfl), by repeat (first | (with_reducible first | exact HB.out | apply below_alloc | apply pw_below_drewN | apply below_drew1) | exact HB.out)⟩
    · rw [if_neg c9] at H
      have c9b0 : (t156.toList == t157.toList) = false := beq_eq_false_iff_ne.mpr c9
      have c9b1 : (t156.toList != t157.toList) = true := bne_iff_ne.mpr c9
      obtain rfl := Option.some.inj H
      go_enter Tryd.func3, Tryd.ntmps3
      go_wp2_with (first | ((with_reducible refine gate_callee (f := 8) rfl ?_); refine goesL_ (some 9) rfl rfl Tryd.func8 (by kernel_rfl) rfl #[.int .u64 a0] rfl (by (try simp only [List.map_toArray, List.map_cons, List.map_nil]); first | done | rfl | (simp only [List.length_drop, List.length_take]; rfl)) ?_; (with_reducible refine (real_Whole.calls a0 t150 t151 _ A2.out).mono ?_); rintro e w' ⟨rfl, ⟨nd, rfl⟩⟩; refine ⟨_, rfl, ?_⟩) | ((with_reducible refine gate_callee (f := 9) rfl ?_); refine goesL_ (some 14) rfl rfl Tryd.func9 (by kernel_rfl) rfl #[.int .u64 a0] rfl (by (try simp only [List.map_toArray, List.map_cons, List.map_nil]); first | done | rfl | (simp only [List.length_drop, List.length_take]; rfl)) ?_; (with_reducible refine (stoleref1_Whole.calls k a0 t152 t153 _ A3.out).mono ?_); rintro e w' ⟨rfl, ⟨nd, rfl⟩⟩; refine ⟨_, rfl, ?_⟩) | ((with_reducible refine gate_callee (f := 10) rfl ?_); refine goesL_ (some 18) rfl rfl Tryd.func10 (by kernel_rfl) rfl #[.int .u64 a0] rfl (by (try simp only [List.map_toArray, List.map_cons, List.map_nil]); first | done | rfl | (simp only [List.length_drop, List.length_take]; rfl)) ?_; (with_reducible refine (real_Kind.calls a0 t154 _ A4.out).mono ?_); rintro e w' ⟨rfl, ⟨nd, rfl⟩⟩; refine ⟨_, rfl, ?_⟩) | ((with_reducible refine gate_callee (f := 11) rfl ?_); refine goesL_ (some 20) rfl rfl Tryd.func11 (by kernel_rfl) rfl #[.int .u64 a0] rfl (by (try simp only [List.map_toArray, List.map_cons, List.map_nil]); first | done | rfl | (simp only [List.length_drop, List.length_take]; rfl)) ?_; (with_reducible refine (stoleref1_Real.calls k a0 t155 _ A5.out).mono ?_); rintro e w' ⟨rfl, ⟨nd, rfl⟩⟩; refine ⟨_, rfl, ?_⟩) | (go_at_call 12; (with_reducible refine (real_Text.calls a0 t156 _ (Tabs.below HT.out (by repeat (first | (with_reducible first | exact HB.out | apply below_alloc | apply pw_below_drewN | apply below_drew1) | exact HB.out))) A7.out).mono ?_); rintro e w20 ⟨rfl, hb⟩; have n0_ := Aside0.mk (below_step (by repeat (first | (with_reducible first | exact HB.out | apply below_alloc | apply pw_below_drewN | apply below_drew1) | exact HB.out)) hb); clear HB; have HB := n0_; clear n0_; (try clear hb); (try clear hb2); (try clear hk); (try clear hi)) | (go_at_call 13; (with_reducible refine (stoleref1_RealText.calls k a0 t157 _ A8.out).mono ?_); rintro e w21 ⟨rfl, hb⟩; have n0_ := Aside0.mk (below_step (by repeat (first | (with_reducible first | exact HB.out | apply below_alloc | apply pw_below_drewN | apply below_drew1) | exact HB.out)) hb); clear HB; have HB := n0_; clear n0_; (try clear hb); (try clear hb2); (try clear hk); (try clear hi)))
      go_ret
      exact ⟨by first | rfl | (simp [errW_none, errW_some] <;> rfl) | (simp [*, errW_none, errW_some] <;> rfl), by repeat (first | (with_reducible first | exact HB.out | apply below_alloc | apply pw_below_drewN | apply below_drew1) | exact HB.out)⟩
  · rw [if_neg c6] at H
    have c6b0 : (t154 == t155) = false := beq_eq_false_iff_ne.mpr c6
    have c6b1 : (t154 != t155) = true := bne_iff_ne.mpr c6
    obtain rfl := Option.some.inj H
    go_enter Tryd.func3, Tryd.ntmps3
    go_wp2_with (first | ((with_reducible refine gate_callee (f := 8) rfl ?_); refine goesL_ (some 9) rfl rfl Tryd.func8 (by kernel_rfl) rfl #[.int .u64 a0] rfl (by (try simp only [List.map_toArray, List.map_cons, List.map_nil]); first | done | rfl | (simp only [List.length_drop, List.length_take]; rfl)) ?_; (with_reducible refine (real_Whole.calls a0 t150 t151 _ A2.out).mono ?_); rintro e w' ⟨rfl, ⟨nd, rfl⟩⟩; refine ⟨_, rfl, ?_⟩) | ((with_reducible refine gate_callee (f := 9) rfl ?_); refine goesL_ (some 14) rfl rfl Tryd.func9 (by kernel_rfl) rfl #[.int .u64 a0] rfl (by (try simp only [List.map_toArray, List.map_cons, List.map_nil]); first | done | rfl | (simp only [List.length_drop, List.length_take]; rfl)) ?_; (with_reducible refine (stoleref1_Whole.calls k a0 t152 t153 _ A3.out).mono ?_); rintro e w' ⟨rfl, ⟨nd, rfl⟩⟩; refine ⟨_, rfl, ?_⟩) | ((with_reducible refine gate_callee (f := 10) rfl ?_); refine goesL_ (some 18) rfl rfl Tryd.func10 (by kernel_rfl) rfl #[.int .u64 a0] rfl (by (try simp only [List.map_toArray, List.map_cons, List.map_nil]); first | done | rfl | (simp only [List.length_drop, List.length_take]; rfl)) ?_; (with_reducible refine (real_Kind.calls a0 t154 _ A4.out).mono ?_); rintro e w' ⟨rfl, ⟨nd, rfl⟩⟩; refine ⟨_, rfl, ?_⟩) | ((with_reducible refine gate_callee (f := 11) rfl ?_); refine goesL_ (some 20) rfl rfl Tryd.func11 (by kernel_rfl) rfl #[.int .u64 a0] rfl (by (try simp only [List.map_toArray, List.map_cons, List.map_nil]); first | done | rfl | (simp only [List.length_drop, List.length_take]; rfl)) ?_; (with_reducible refine (stoleref1_Real.calls k a0 t155 _ A5.out).mono ?_); rintro e w' ⟨rfl, ⟨nd, rfl⟩⟩; refine ⟨_, rfl, ?_⟩))
    go_ret
    exact ⟨by first | rfl | (simp [errW_none, errW_some] <;> rfl) | (simp [*, errW_none, errW_some] <;> rfl), by repeat (first | (with_reducible first | exact HB.out | apply below_alloc | apply pw_below_drewN | apply below_drew1) | exact HB.out)⟩

/-- THE ONE PURE STATEMENT of stolelaw3_Reals: yours. -/
def stolelaw3_Reals.Pure : Prop := ∀ (a0 : Int), (Lit.int .u64 a0).wf = true → ∃ k, stolelaw3_Reals.f k a0 = some true
theorem stolelaw3_Reals.walk (P : stolelaw3_Reals.Pure) (a0 : Int) (w : World) (hT : Tabs w) (w0 : (Lit.int .u64 a0).wf = true) :
    Calls Tryd.prog 3 #[.int .u64 a0] w fun e w' => e = .returned (.bool true) ∧ Below w.heap.size w w' := by
  obtain ⟨k, h⟩ := P a0 w0
  refine (stolelaw3_Reals.calls k a0 true w hT h).mono ?_
  rintro e w' ⟨rfl, hd⟩
  exact ⟨rfl, hd⟩

/-! ### stolelaw3_RealWholes: function 4 -/
def stolelaw3_RealWholes.l0 : Nat → Bool → Int → Int → Option (Bool)
  | 0, _, _, _ => none
  | k + 1, x1, x5, x6 => if 0 ≤ (IntKind.u64.wrap (x6)) then (if (shr .i64 x5 (IntKind.u64.wrap (x6))) = 0 then (stolelaw3_RealWholes.l0 k x1 x5 (wrap64 (x6 - 1))) else (if 0 ≤ (IntKind.u64.wrap (wrap64 (52 - x6))) then ((stoleref0_Decimal.f k x5).bind fun t160 => (if x1 = true then (if 1 + t160.size ≤ 9223372036854775807 then ((real_Whole.f (Go.bits .or .u64 (Go.bits .or .u64 (IntKind.u64.wrap ((IntKind.u64.wrap (wrap64 (x6 + 1023))) * 4503599627370496)) (Go.bits .and .u64 (shl .u64 (IntKind.u64.wrap (x5)) (IntKind.u64.wrap (wrap64 (52 - x6)))) 4503599627370495)) 9223372036854775808)).bind fun bt161 => ((real_Kind.f (Go.bits .or .u64 (Go.bits .or .u64 (IntKind.u64.wrap ((IntKind.u64.wrap (wrap64 (x6 + 1023))) * 4503599627370496)) (Go.bits .and .u64 (shl .u64 (IntKind.u64.wrap (x5)) (IntKind.u64.wrap (wrap64 (52 - x6)))) 4503599627370495)) 9223372036854775808)).bind fun t163 => (if t163 = 3 then (if bt161.2 = true then (if bt161.1 = (wrap64 (-x5)) then ((real_Text.f (Go.bits .or .u64 (Go.bits .or .u64 (IntKind.u64.wrap ((IntKind.u64.wrap (wrap64 (x6 + 1023))) * 4503599627370496)) (Go.bits .and .u64 (shl .u64 (IntKind.u64.wrap (x5)) (IntKind.u64.wrap (wrap64 (52 - x6)))) 4503599627370495)) 9223372036854775808)).bind fun t164 => (some (t164.toList == ((⟨#[45]⟩ : ByteArray) ++ t160).toList))) else (some false)) else (some false)) else (some false)))) else (none)) else ((real_Whole.f (Go.bits .or .u64 (IntKind.u64.wrap ((IntKind.u64.wrap (wrap64 (x6 + 1023))) * 4503599627370496)) (Go.bits .and .u64 (shl .u64 (IntKind.u64.wrap (x5)) (IntKind.u64.wrap (wrap64 (52 - x6)))) 4503599627370495))).bind fun bt165 => ((real_Kind.f (Go.bits .or .u64 (IntKind.u64.wrap ((IntKind.u64.wrap (wrap64 (x6 + 1023))) * 4503599627370496)) (Go.bits .and .u64 (shl .u64 (IntKind.u64.wrap (x5)) (IntKind.u64.wrap (wrap64 (52 - x6)))) 4503599627370495))).bind fun t167 => (if t167 = 3 then (if bt165.2 = true then (if bt165.1 = x5 then ((real_Text.f (Go.bits .or .u64 (IntKind.u64.wrap ((IntKind.u64.wrap (wrap64 (x6 + 1023))) * 4503599627370496)) (Go.bits .and .u64 (shl .u64 (IntKind.u64.wrap (x5)) (IntKind.u64.wrap (wrap64 (52 - x6)))) 4503599627370495))).bind fun t168 => (some (t168.toList == t160.toList))) else (some false)) else (some false)) else (some false)))))) else (none))) else (none)
def stolelaw3_RealWholes.f (k : Nat) (a0 : Int) (a1 : Bool) : Option (Bool) := (stolelaw3_awake.f).bind fun t159 => (if t159 = true then (if (Go.bits .and .i64 a0 9007199254740991) = 0 then (some true) else (stolelaw3_RealWholes.l0 k a1 (Go.bits .and .i64 a0 9007199254740991) 52)) else (some false))
theorem stolelaw3_RealWholes.mono_l : ∀ k, (∀ y0 y1 y2, LeO (stolelaw3_RealWholes.l0 k y0 y1 y2) (stolelaw3_RealWholes.l0 (k + 1) y0 y1 y2))
  | 0 => fun _ _ _ r h => by simp [stolelaw3_RealWholes.l0] at h
  | k + 1 => by
    have ih0 := stolelaw3_RealWholes.mono_l k
    · intro y0 y1 y2
      unfold stolelaw3_RealWholes.l0
      repeat' first
      | (with_reducible exact ih0 _ _ _)
      | (with_reducible exact stoleref0_Decimal.mono _ _)
      | (with_reducible exact LeO.refl _)
      | (with_reducible exact LeO.none _)
      | (with_reducible refine LeO.ite ?_ ?_)
      | (with_reducible refine LeO.bind ?_ (fun _ => ?_))
      | exact ih0 _ _ _
      | exact stoleref0_Decimal.mono _ _
      | exact LeO.none _
      | refine LeO.ite ?_ ?_
      | refine LeO.bind ?_ (fun _ => ?_)
theorem stolelaw3_RealWholes.mono : ∀ a0 a1 k, LeO (stolelaw3_RealWholes.f k a0 a1) (stolelaw3_RealWholes.f (k + 1) a0 a1) := by
  intro a0 a1 k
  have ih0 := stolelaw3_RealWholes.mono_l k
  unfold stolelaw3_RealWholes.f
  repeat' first
      | (with_reducible exact ih0 _ _ _)
      | (with_reducible exact stoleref0_Decimal.mono _ _)
      | (with_reducible exact LeO.refl _)
      | (with_reducible exact LeO.none _)
      | (with_reducible refine LeO.ite ?_ ?_)
      | (with_reducible refine LeO.bind ?_ (fun _ => ?_))
      | exact ih0 _ _ _
      | exact stoleref0_Decimal.mono _ _
      | exact LeO.none _
      | refine LeO.ite ?_ ?_
      | refine LeO.bind ?_ (fun _ => ?_)
set_option maxHeartbeats 8000000 in
set_option maxRecDepth 100000 in
theorem stolelaw3_RealWholes.calls (k : Nat) (a0 : Int) (a1 : Bool) (r : Bool) (w : World) (hT : Tabs w) (h : stolelaw3_RealWholes.f k a0 a1 = some r) :
    Calls Tryd.prog 4 #[.int .i64 a0, .bool a1] w fun e w' => e = .returned (.bool r) ∧ Below w.heap.size w w' := by
  have HT := Aside0.mk hT
  clear hT
  have HB := Aside0.mk (Below.refl w.heap.size w)
  have H : ((stolelaw3_awake.f).bind fun t159 => (if t159 = true then (if (Go.bits .and .i64 a0 9007199254740991) = 0 then (some true) else (stolelaw3_RealWholes.l0 k a1 (Go.bits .and .i64 a0 9007199254740991) 52)) else (some false))) = some r := h
  clear h
  replace H := Option.bind_eq_some_iff.mp H
  obtain ⟨t159, A30, H⟩ := H
  replace H : (if t159 = true then (if (Go.bits .and .i64 a0 9007199254740991) = 0 then (some true) else (stolelaw3_RealWholes.l0 k a1 (Go.bits .and .i64 a0 9007199254740991) 52)) else (some false)) = some r := H
  have A3 := Aside0.mk A30
  clear A30
  by_cases c4 : t159 = true
  · subst c4
    have H1 : (if (Go.bits .and .i64 a0 9007199254740991) = 0 then (some true) else (stolelaw3_RealWholes.l0 k a1 (Go.bits .and .i64 a0 9007199254740991) 52)) = some r := by rw [if_pos rfl] at H; exact H
    clear H
    have H := H1
    clear H1
    by_cases c5 : (Go.bits .and .i64 a0 9007199254740991) = 0
    · rw [if_pos c5] at H
      have c5b0 : ((Go.bits .and .i64 a0 9007199254740991) == 0) = true := beq_iff_eq.mpr c5
      have c5b1 : ((Go.bits .and .i64 a0 9007199254740991) != 0) = false := bne_eq_false_iff_eq.mpr c5
      clear c5
      obtain rfl := Option.some.inj H
      go_enter Tryd.func4, Tryd.ntmps4
      go_wp2_with (first | ((with_reducible refine gate_callee (f := 14) rfl ?_); refine goesL_ (some 11) rfl rfl Tryd.func14 (by kernel_rfl) rfl #[] rfl (by (try simp only [List.map_toArray, List.map_cons, List.map_nil]); first | done | rfl | (simp only [List.length_drop, List.length_take]; rfl)) ?_; (with_reducible refine (stolelaw3_awake.calls  true _ (Tabs.below HT.out (by repeat (first | (with_reducible first | exact HB.out | apply below_alloc | apply pw_below_drewN | apply below_drew1) | exact HB.out))) A3.out).mono ?_); rintro e w6 ⟨rfl, hb⟩; refine ⟨_, rfl, ?_⟩; have n0_ := Aside0.mk (below_step (by repeat (first | (with_reducible first | exact HB.out | apply below_alloc | apply pw_below_drewN | apply below_drew1) | exact HB.out)) hb); clear HB; have HB := n0_; clear n0_; (try clear hb); (try clear hb2); (try clear hk); (try clear hi)))
      go_ret
      exact ⟨by first | rfl | (simp [errW_none, errW_some] <;> rfl) | (simp [*, errW_none, errW_some] <;> rfl), by repeat (first | (with_reducible first | exact HB.out | apply below_alloc | apply pw_below_drewN | apply below_drew1) | exact HB.out)⟩
    · rw [if_neg c5] at H
      have c5b0 : ((Go.bits .and .i64 a0 9007199254740991) == 0) = false := beq_eq_false_iff_ne.mpr c5
      have c5b1 : ((Go.bits .and .i64 a0 9007199254740991) != 0) = true := bne_iff_ne.mpr c5
      have H' := Aside0.mk H
      clear H
      go_enter Tryd.func4, Tryd.ntmps4
      go_wp2_with (first | ((with_reducible refine gate_callee (f := 14) rfl ?_); refine goesL_ (some 11) rfl rfl Tryd.func14 (by kernel_rfl) rfl #[] rfl (by (try simp only [List.map_toArray, List.map_cons, List.map_nil]); first | done | rfl | (simp only [List.length_drop, List.length_take]; rfl)) ?_; (with_reducible refine (stolelaw3_awake.calls  true _ (Tabs.below HT.out (by repeat (first | (with_reducible first | exact HB.out | apply below_alloc | apply pw_below_drewN | apply below_drew1) | exact HB.out))) A3.out).mono ?_); rintro e w7 ⟨rfl, hb⟩; refine ⟨_, rfl, ?_⟩; have n0_ := Aside0.mk (below_step (by repeat (first | (with_reducible first | exact HB.out | apply below_alloc | apply pw_below_drewN | apply below_drew1) | exact HB.out)) hb); clear HB; have HB := n0_; clear n0_; (try clear hb); (try clear hb2); (try clear hk); (try clear hi)))
      go_loopg [6] k (fun kq v6 w' => ∃ (x6_1 : Int), v6 = .int .i64 x6_1 ∧ Aside0 (stolelaw3_RealWholes.l0 kq a1 (Go.bits .and .i64 a0 9007199254740991) x6_1 = some r) ∧ Aside0 (kq ≤ k) ∧ Aside0 (Below w.heap.size w w'))
      case atStart => exact ⟨(52), (by first | rfl | (simp; done) | (simp [*]; done)), H', ⟨Nat.le_refl _⟩, ⟨by repeat (first | (with_reducible first | exact HB.out | apply below_alloc | apply pw_below_drewN | apply below_drew1) | exact HB.out)⟩⟩
      case round =>
        clear H'
        try clear c1
        try clear p2
        try clear c4
        try clear c5
        try clear c5b0
        try clear c5b1
        obtain ⟨x6_1, rfl, HA, HK1, HB⟩ := hrel
        cases gk with
        | zero => exact absurd HA.out (by simp [stolelaw3_RealWholes.l0])
        | succ k1 =>
          have H := HA.out
          clear HA
          simp only [stolelaw3_RealWholes.l0] at H
          obtain ⟨ji8, hji8⟩ : ∃ j_ : Int, (IntKind.u64.wrap (x6_1)) = j_ := ⟨_, rfl⟩
          replace H : (if 0 ≤ (ji8) then (if (shr .i64 (Go.bits .and .i64 a0 9007199254740991) (ji8)) = 0 then (stolelaw3_RealWholes.l0 k1 a1 (Go.bits .and .i64 a0 9007199254740991) (wrap64 (x6_1 - 1))) else (if 0 ≤ (IntKind.u64.wrap (wrap64 (52 - x6_1))) then ((stoleref0_Decimal.f k1 (Go.bits .and .i64 a0 9007199254740991)).bind fun t160 => (if a1 = true then (if 1 + t160.size ≤ 9223372036854775807 then ((real_Whole.f (Go.bits .or .u64 (Go.bits .or .u64 (IntKind.u64.wrap ((IntKind.u64.wrap (wrap64 (x6_1 + 1023))) * 4503599627370496)) (Go.bits .and .u64 (shl .u64 (IntKind.u64.wrap ((Go.bits .and .i64 a0 9007199254740991))) (IntKind.u64.wrap (wrap64 (52 - x6_1)))) 4503599627370495)) 9223372036854775808)).bind fun bt161 => ((real_Kind.f (Go.bits .or .u64 (Go.bits .or .u64 (IntKind.u64.wrap ((IntKind.u64.wrap (wrap64 (x6_1 + 1023))) * 4503599627370496)) (Go.bits .and .u64 (shl .u64 (IntKind.u64.wrap ((Go.bits .and .i64 a0 9007199254740991))) (IntKind.u64.wrap (wrap64 (52 - x6_1)))) 4503599627370495)) 9223372036854775808)).bind fun t163 => (if t163 = 3 then (if bt161.2 = true then (if bt161.1 = (wrap64 (-(Go.bits .and .i64 a0 9007199254740991))) then ((real_Text.f (Go.bits .or .u64 (Go.bits .or .u64 (IntKind.u64.wrap ((IntKind.u64.wrap (wrap64 (x6_1 + 1023))) * 4503599627370496)) (Go.bits .and .u64 (shl .u64 (IntKind.u64.wrap ((Go.bits .and .i64 a0 9007199254740991))) (IntKind.u64.wrap (wrap64 (52 - x6_1)))) 4503599627370495)) 9223372036854775808)).bind fun t164 => (some (t164.toList == ((⟨#[45]⟩ : ByteArray) ++ t160).toList))) else (some false)) else (some false)) else (some false)))) else (none)) else ((real_Whole.f (Go.bits .or .u64 (IntKind.u64.wrap ((IntKind.u64.wrap (wrap64 (x6_1 + 1023))) * 4503599627370496)) (Go.bits .and .u64 (shl .u64 (IntKind.u64.wrap ((Go.bits .and .i64 a0 9007199254740991))) (IntKind.u64.wrap (wrap64 (52 - x6_1)))) 4503599627370495))).bind fun bt165 => ((real_Kind.f (Go.bits .or .u64 (IntKind.u64.wrap ((IntKind.u64.wrap (wrap64 (x6_1 + 1023))) * 4503599627370496)) (Go.bits .and .u64 (shl .u64 (IntKind.u64.wrap ((Go.bits .and .i64 a0 9007199254740991))) (IntKind.u64.wrap (wrap64 (52 - x6_1)))) 4503599627370495))).bind fun t167 => (if t167 = 3 then (if bt165.2 = true then (if bt165.1 = (Go.bits .and .i64 a0 9007199254740991) then ((real_Text.f (Go.bits .or .u64 (IntKind.u64.wrap ((IntKind.u64.wrap (wrap64 (x6_1 + 1023))) * 4503599627370496)) (Go.bits .and .u64 (shl .u64 (IntKind.u64.wrap ((Go.bits .and .i64 a0 9007199254740991))) (IntKind.u64.wrap (wrap64 (52 - x6_1)))) 4503599627370495))).bind fun t168 => (some (t168.toList == t160.toList))) else (some false)) else (some false)) else (some false)))))) else (none))) else (none)) = some r := by first | (rw [hji8] at H; exact H) | (simp only [hji8] at H ⊢; exact H)
          by_cases c9 : 0 ≤ (ji8)
          · rw [if_pos c9] at H
            have c9b0 := eq_true c9
            have c9b1 : decide (0 ≤ (ji8)) = true := decide_eq_true c9
            clear c9
            obtain ⟨ji10, hji10⟩ : ∃ j_ : Int, (shr .i64 (Go.bits .and .i64 a0 9007199254740991) (ji8)) = j_ := ⟨_, rfl⟩
            replace H : (if (ji10) = 0 then (stolelaw3_RealWholes.l0 k1 a1 (Go.bits .and .i64 a0 9007199254740991) (wrap64 (x6_1 - 1))) else (if 0 ≤ (IntKind.u64.wrap (wrap64 (52 - x6_1))) then ((stoleref0_Decimal.f k1 (Go.bits .and .i64 a0 9007199254740991)).bind fun t160 => (if a1 = true then (if 1 + t160.size ≤ 9223372036854775807 then ((real_Whole.f (Go.bits .or .u64 (Go.bits .or .u64 (IntKind.u64.wrap ((IntKind.u64.wrap (wrap64 (x6_1 + 1023))) * 4503599627370496)) (Go.bits .and .u64 (shl .u64 (IntKind.u64.wrap ((Go.bits .and .i64 a0 9007199254740991))) (IntKind.u64.wrap (wrap64 (52 - x6_1)))) 4503599627370495)) 9223372036854775808)).bind fun bt161 => ((real_Kind.f (Go.bits .or .u64 (Go.bits .or .u64 (IntKind.u64.wrap ((IntKind.u64.wrap (wrap64 (x6_1 + 1023))) * 4503599627370496)) (Go.bits .and .u64 (shl .u64 (IntKind.u64.wrap ((Go.bits .and .i64 a0 9007199254740991))) (IntKind.u64.wrap (wrap64 (52 - x6_1)))) 4503599627370495)) 9223372036854775808)).bind fun t163 => (if t163 = 3 then (if bt161.2 = true then (if bt161.1 = (wrap64 (-(Go.bits .and .i64 a0 9007199254740991))) then ((real_Text.f (Go.bits .or .u64 (Go.bits .or .u64 (IntKind.u64.wrap ((IntKind.u64.wrap (wrap64 (x6_1 + 1023))) * 4503599627370496)) (Go.bits .and .u64 (shl .u64 (IntKind.u64.wrap ((Go.bits .and .i64 a0 9007199254740991))) (IntKind.u64.wrap (wrap64 (52 - x6_1)))) 4503599627370495)) 9223372036854775808)).bind fun t164 => (some (t164.toList == ((⟨#[45]⟩ : ByteArray) ++ t160).toList))) else (some false)) else (some false)) else (some false)))) else (none)) else ((real_Whole.f (Go.bits .or .u64 (IntKind.u64.wrap ((IntKind.u64.wrap (wrap64 (x6_1 + 1023))) * 4503599627370496)) (Go.bits .and .u64 (shl .u64 (IntKind.u64.wrap ((Go.bits .and .i64 a0 9007199254740991))) (IntKind.u64.wrap (wrap64 (52 - x6_1)))) 4503599627370495))).bind fun bt165 => ((real_Kind.f (Go.bits .or .u64 (IntKind.u64.wrap ((IntKind.u64.wrap (wrap64 (x6_1 + 1023))) * 4503599627370496)) (Go.bits .and .u64 (shl .u64 (IntKind.u64.wrap ((Go.bits .and .i64 a0 9007199254740991))) (IntKind.u64.wrap (wrap64 (52 - x6_1)))) 4503599627370495))).bind fun t167 => (if t167 = 3 then (if bt165.2 = true then (if bt165.1 = (Go.bits .and .i64 a0 9007199254740991) then ((real_Text.f (Go.bits .or .u64 (IntKind.u64.wrap ((IntKind.u64.wrap (wrap64 (x6_1 + 1023))) * 4503599627370496)) (Go.bits .and .u64 (shl .u64 (IntKind.u64.wrap ((Go.bits .and .i64 a0 9007199254740991))) (IntKind.u64.wrap (wrap64 (52 - x6_1)))) 4503599627370495))).bind fun t168 => (some (t168.toList == t160.toList))) else (some false)) else (some false)) else (some false)))))) else (none))) = some r := by first | (rw [hji10] at H; exact H) | (simp only [hji10] at H ⊢; exact H)
            have hji10_ : ((Go.bits .and .i64 a0 9007199254740991) / 2 ^ min (ji8).toNat 64) = ji10 := hji10
            have hji10z : (ji8) ≤ 64 → ((Go.bits .and .i64 a0 9007199254740991) / 2 ^ (ji8).toNat) = ji10 := shr_small hji10
            by_cases c11 : (ji10) = 0
            · rw [if_pos c11] at H
              have c11b0 : ((ji10) == 0) = true := beq_iff_eq.mpr c11
              have c11b1 : ((ji10) != 0) = false := bne_eq_false_iff_eq.mpr c11
              clear c11
              have H' := Aside0.mk H
              clear H
              go_wp2
              go_roundg k1
              case measure => have := HK1.out; omega
              case rel => exact ⟨(wrap64 (x6_1 - 1)), (by first | rfl | (simp; done) | (simp [*]; done)), H', ⟨by have := HK1.out; omega⟩, ⟨by repeat (first | (with_reducible first | exact HB.out | apply below_alloc | apply pw_below_drewN | apply below_drew1) | exact HB.out)⟩⟩
            · rw [if_neg c11] at H
              have c11b0 : ((ji10) == 0) = false := beq_eq_false_iff_ne.mpr c11
              have c11b1 : ((ji10) != 0) = true := bne_iff_ne.mpr c11
              obtain ⟨ji12, hji12⟩ : ∃ j_ : Int, (IntKind.u64.wrap (wrap64 (52 - x6_1))) = j_ := ⟨_, rfl⟩
              replace H : (if 0 ≤ (ji12) then ((stoleref0_Decimal.f k1 (Go.bits .and .i64 a0 9007199254740991)).bind fun t160 => (if a1 = true then (if 1 + t160.size ≤ 9223372036854775807 then ((real_Whole.f (Go.bits .or .u64 (Go.bits .or .u64 (IntKind.u64.wrap ((IntKind.u64.wrap (wrap64 (x6_1 + 1023))) * 4503599627370496)) (Go.bits .and .u64 (shl .u64 (IntKind.u64.wrap ((Go.bits .and .i64 a0 9007199254740991))) (ji12)) 4503599627370495)) 9223372036854775808)).bind fun bt161 => ((real_Kind.f (Go.bits .or .u64 (Go.bits .or .u64 (IntKind.u64.wrap ((IntKind.u64.wrap (wrap64 (x6_1 + 1023))) * 4503599627370496)) (Go.bits .and .u64 (shl .u64 (IntKind.u64.wrap ((Go.bits .and .i64 a0 9007199254740991))) (ji12)) 4503599627370495)) 9223372036854775808)).bind fun t163 => (if t163 = 3 then (if bt161.2 = true then (if bt161.1 = (wrap64 (-(Go.bits .and .i64 a0 9007199254740991))) then ((real_Text.f (Go.bits .or .u64 (Go.bits .or .u64 (IntKind.u64.wrap ((IntKind.u64.wrap (wrap64 (x6_1 + 1023))) * 4503599627370496)) (Go.bits .and .u64 (shl .u64 (IntKind.u64.wrap ((Go.bits .and .i64 a0 9007199254740991))) (ji12)) 4503599627370495)) 9223372036854775808)).bind fun t164 => (some (t164.toList == ((⟨#[45]⟩ : ByteArray) ++ t160).toList))) else (some false)) else (some false)) else (some false)))) else (none)) else ((real_Whole.f (Go.bits .or .u64 (IntKind.u64.wrap ((IntKind.u64.wrap (wrap64 (x6_1 + 1023))) * 4503599627370496)) (Go.bits .and .u64 (shl .u64 (IntKind.u64.wrap ((Go.bits .and .i64 a0 9007199254740991))) (ji12)) 4503599627370495))).bind fun bt165 => ((real_Kind.f (Go.bits .or .u64 (IntKind.u64.wrap ((IntKind.u64.wrap (wrap64 (x6_1 + 1023))) * 4503599627370496)) (Go.bits .and .u64 (shl .u64 (IntKind.u64.wrap ((Go.bits .and .i64 a0 9007199254740991))) (ji12)) 4503599627370495))).bind fun t167 => (if t167 = 3 then (if bt165.2 = true then (if bt165.1 = (Go.bits .and .i64 a0 9007199254740991) then ((real_Text.f (Go.bits .or .u64 (IntKind.u64.wrap ((IntKind.u64.wrap (wrap64 (x6_1 + 1023))) * 4503599627370496)) (Go.bits .and .u64 (shl .u64 (IntKind.u64.wrap ((Go.bits .and .i64 a0 9007199254740991))) (ji12)) 4503599627370495))).bind fun t168 => (some (t168.toList == t160.toList))) else (some false)) else (some false)) else (some false)))))) else (none)) = some r := by first | (rw [hji12] at H; exact H) | (simp only [hji12] at H ⊢; exact H)
              by_cases c13 : 0 ≤ (ji12)
              · rw [if_pos c13] at H
                have c13b0 := eq_true c13
                have c13b1 : decide (0 ≤ (ji12)) = true := decide_eq_true c13
                clear c13
                obtain ⟨ji14, hji14⟩ : ∃ j_ : Int, (shl .u64 (IntKind.u64.wrap ((Go.bits .and .i64 a0 9007199254740991))) (ji12)) = j_ := ⟨_, rfl⟩
                replace H : ((stoleref0_Decimal.f k1 (Go.bits .and .i64 a0 9007199254740991)).bind fun t160 => (if a1 = true then (if 1 + t160.size ≤ 9223372036854775807 then ((real_Whole.f (Go.bits .or .u64 (Go.bits .or .u64 (IntKind.u64.wrap ((IntKind.u64.wrap (wrap64 (x6_1 + 1023))) * 4503599627370496)) (Go.bits .and .u64 (ji14) 4503599627370495)) 9223372036854775808)).bind fun bt161 => ((real_Kind.f (Go.bits .or .u64 (Go.bits .or .u64 (IntKind.u64.wrap ((IntKind.u64.wrap (wrap64 (x6_1 + 1023))) * 4503599627370496)) (Go.bits .and .u64 (ji14) 4503599627370495)) 9223372036854775808)).bind fun t163 => (if t163 = 3 then (if bt161.2 = true then (if bt161.1 = (wrap64 (-(Go.bits .and .i64 a0 9007199254740991))) then ((real_Text.f (Go.bits .or .u64 (Go.bits .or .u64 (IntKind.u64.wrap ((IntKind.u64.wrap (wrap64 (x6_1 + 1023))) * 4503599627370496)) (Go.bits .and .u64 (ji14) 4503599627370495)) 9223372036854775808)).bind fun t164 => (some (t164.toList == ((⟨#[45]⟩ : ByteArray) ++ t160).toList))) else (some false)) else (some false)) else (some false)))) else (none)) else ((real_Whole.f (Go.bits .or .u64 (IntKind.u64.wrap ((IntKind.u64.wrap (wrap64 (x6_1 + 1023))) * 4503599627370496)) (Go.bits .and .u64 (ji14) 4503599627370495))).bind fun bt165 => ((real_Kind.f (Go.bits .or .u64 (IntKind.u64.wrap ((IntKind.u64.wrap (wrap64 (x6_1 + 1023))) * 4503599627370496)) (Go.bits .and .u64 (ji14) 4503599627370495))).bind fun t167 => (if t167 = 3 then (if bt165.2 = true then (if bt165.1 = (Go.bits .and .i64 a0 9007199254740991) then ((real_Text.f (Go.bits .or .u64 (IntKind.u64.wrap ((IntKind.u64.wrap (wrap64 (x6_1 + 1023))) * 4503599627370496)) (Go.bits .and .u64 (ji14) 4503599627370495))).bind fun t168 => (some (t168.toList == t160.toList))) else (some false)) else (some false)) else (some false)))))) = some r := by first | (rw [hji14] at H; exact H) | (simp only [hji14] at H ⊢; exact H)
                have hji14_ : (IntKind.u64.wrap ((IntKind.u64.wrap ((Go.bits .and .i64 a0 9007199254740991))) * 2 ^ min (ji12).toNat 64)) = ji14 := hji14
                have hji14z : (ji12) ≤ 64 → (IntKind.u64.wrap ((IntKind.u64.wrap ((Go.bits .and .i64 a0 9007199254740991))) * 2 ^ (ji12).toNat)) = ji14 := shl_small hji14
                replace H := Option.bind_eq_some_iff.mp H
                obtain ⟨t160, A150, H⟩ := H
                replace H : (if a1 = true then (if 1 + t160.size ≤ 9223372036854775807 then ((real_Whole.f (Go.bits .or .u64 (Go.bits .or .u64 (IntKind.u64.wrap ((IntKind.u64.wrap (wrap64 (x6_1 + 1023))) * 4503599627370496)) (Go.bits .and .u64 (ji14) 4503599627370495)) 9223372036854775808)).bind fun bt161 => ((real_Kind.f (Go.bits .or .u64 (Go.bits .or .u64 (IntKind.u64.wrap ((IntKind.u64.wrap (wrap64 (x6_1 + 1023))) * 4503599627370496)) (Go.bits .and .u64 (ji14) 4503599627370495)) 9223372036854775808)).bind fun t163 => (if t163 = 3 then (if bt161.2 = true then (if bt161.1 = (wrap64 (-(Go.bits .and .i64 a0 9007199254740991))) then ((real_Text.f (Go.bits .or .u64 (Go.bits .or .u64 (IntKind.u64.wrap ((IntKind.u64.wrap (wrap64 (x6_1 + 1023))) * 4503599627370496)) (Go.bits .and .u64 (ji14) 4503599627370495)) 9223372036854775808)).bind fun t164 => (some (t164.toList == ((⟨#[45]⟩ : ByteArray) ++ t160).toList))) else (some false)) else (some false)) else (some false)))) else (none)) else ((real_Whole.f (Go.bits .or .u64 (IntKind.u64.wrap ((IntKind.u64.wrap (wrap64 (x6_1 + 1023))) * 4503599627370496)) (Go.bits .and .u64 (ji14) 4503599627370495))).bind fun bt165 => ((real_Kind.f (Go.bits .or .u64 (IntKind.u64.wrap ((IntKind.u64.wrap (wrap64 (x6_1 + 1023))) * 4503599627370496)) (Go.bits .and .u64 (ji14) 4503599627370495))).bind fun t167 => (if t167 = 3 then (if bt165.2 = true then (if bt165.1 = (Go.bits .and .i64 a0 9007199254740991) then ((real_Text.f (Go.bits .or .u64 (IntKind.u64.wrap ((IntKind.u64.wrap (wrap64 (x6_1 + 1023))) * 4503599627370496)) (Go.bits .and .u64 (ji14) 4503599627370495))).bind fun t168 => (some (t168.toList == t160.toList))) else (some false)) else (some false)) else (some false))))) = some r := H
                have A15 := Aside0.mk A150
                clear A150
                by_cases c16 : a1 = true
                · subst c16
                  have H1 : (if 1 + t160.size ≤ 9223372036854775807 then ((real_Whole.f (Go.bits .or .u64 (Go.bits .or .u64 (IntKind.u64.wrap ((IntKind.u64.wrap (wrap64 (x6_1 + 1023))) * 4503599627370496)) (Go.bits .and .u64 (ji14) 4503599627370495)) 9223372036854775808)).bind fun bt161 => ((real_Kind.f (Go.bits .or .u64 (Go.bits .or .u64 (IntKind.u64.wrap ((IntKind.u64.wrap (wrap64 (x6_1 + 1023))) * 4503599627370496)) (Go.bits .and .u64 (ji14) 4503599627370495)) 9223372036854775808)).bind fun t163 => (if t163 = 3 then (if bt161.2 = true then (if bt161.1 = (wrap64 (-(Go.bits .and .i64 a0 9007199254740991))) then ((real_Text.f (Go.bits .or .u64 (Go.bits .or .u64 (IntKind.u64.wrap ((IntKind.u64.wrap (wrap64 (x6_1 + 1023))) * 4503599627370496)) (Go.bits .and .u64 (ji14) 4503599627370495)) 9223372036854775808)).bind fun t164 => (some (t164.toList == ((⟨#[45]⟩ : ByteArray) ++ t160).toList))) else (some false)) else (some false)) else (some false)))) else (none)) = some r := by rw [if_pos rfl] at H; exact H
                  clear H
                  have H := H1
                  clear H1
                  by_cases c17 : 1 + t160.size ≤ 9223372036854775807
                  · rw [if_pos c17] at H
                    have c17b0 := eq_true c17
                    have c17b1 : decide (1 + t160.size ≤ 9223372036854775807) = true := decide_eq_true c17
                    try have c17b2 : (9223372036854775807 < 1 + t160.size) = False := eq_false (Nat.not_lt.2 c17)
                    replace H := Option.bind_eq_some_iff.mp H
                    obtain ⟨⟨t161, t162⟩, A180, H⟩ := H
                    replace H : ((real_Kind.f (Go.bits .or .u64 (Go.bits .or .u64 (IntKind.u64.wrap ((IntKind.u64.wrap (wrap64 (x6_1 + 1023))) * 4503599627370496)) (Go.bits .and .u64 (ji14) 4503599627370495)) 9223372036854775808)).bind fun t163 => (if t163 = 3 then (if t162 = true then (if t161 = (wrap64 (-(Go.bits .and .i64 a0 9007199254740991))) then ((real_Text.f (Go.bits .or .u64 (Go.bits .or .u64 (IntKind.u64.wrap ((IntKind.u64.wrap (wrap64 (x6_1 + 1023))) * 4503599627370496)) (Go.bits .and .u64 (ji14) 4503599627370495)) 9223372036854775808)).bind fun t164 => (some (t164.toList == ((⟨#[45]⟩ : ByteArray) ++ t160).toList))) else (some false)) else (some false)) else (some false))) = some r := H
                    have A18 := Aside0.mk A180
                    clear A180
                    replace H := Option.bind_eq_some_iff.mp H
                    obtain ⟨t163, A190, H⟩ := H
                    replace H : (if t163 = 3 then (if t162 = true then (if t161 = (wrap64 (-(Go.bits .and .i64 a0 9007199254740991))) then ((real_Text.f (Go.bits .or .u64 (Go.bits .or .u64 (IntKind.u64.wrap ((IntKind.u64.wrap (wrap64 (x6_1 + 1023))) * 4503599627370496)) (Go.bits .and .u64 (ji14) 4503599627370495)) 9223372036854775808)).bind fun t164 => (some (t164.toList == ((⟨#[45]⟩ : ByteArray) ++ t160).toList))) else (some false)) else (some false)) else (some false)) = some r := H
                    have A19 := Aside0.mk A190
                    clear A190
                    by_cases c20 : t163 = 3
                    · rw [if_pos c20] at H
                      have c20b0 : (t163 == 3) = true := beq_iff_eq.mpr c20
                      have c20b1 : (t163 != 3) = false := bne_eq_false_iff_eq.mpr c20
                      clear c20
                      by_cases c21 : t162 = true
                      · subst c21
                        have H1 : (if t161 = (wrap64 (-(Go.bits .and .i64 a0 9007199254740991))) then ((real_Text.f (Go.bits .or .u64 (Go.bits .or .u64 (IntKind.u64.wrap ((IntKind.u64.wrap (wrap64 (x6_1 + 1023))) * 4503599627370496)) (Go.bits .and .u64 (ji14) 4503599627370495)) 9223372036854775808)).bind fun t164 => (some (t164.toList == ((⟨#[45]⟩ : ByteArray) ++ t160).toList))) else (some false)) = some r := by rw [if_pos rfl] at H; exact H
                        clear H
                        have H := H1
                        clear H1
                        by_cases c22 : t161 = (wrap64 (-(Go.bits .and .i64 a0 9007199254740991)))
                        · rw [if_pos c22] at H
                          have c22b0 : (t161 == (wrap64 (-(Go.bits .and .i64 a0 9007199254740991)))) = true := beq_iff_eq.mpr c22
                          have c22b1 : (t161 != (wrap64 (-(Go.bits .and .i64 a0 9007199254740991)))) = false := bne_eq_false_iff_eq.mpr c22
                          clear c22
                          replace H := Option.bind_eq_some_iff.mp H
                          obtain ⟨t164, A230, H⟩ := H
                          replace H : (some (t164.toList == ((⟨#[45]⟩ : ByteArray) ++ t160).toList)) = some r := H
                          have A23 := Aside0.mk A230
                          clear A230
                          obtain rfl := Option.some.inj H
                          go_wp2_with (first | ((with_reducible refine gate_callee (f := 15) rfl ?_); refine goesL_ (some 37) rfl rfl Tryd.func15 (by kernel_rfl) rfl #[.int .i64 (Go.bits .and .i64 a0 9007199254740991)] rfl (by (try simp only [List.map_toArray, List.map_cons, List.map_nil]); first | done | rfl | (simp only [List.length_drop, List.length_take]; rfl)) ?_; (with_reducible refine (stoleref0_Decimal.calls k1 (Go.bits .and .i64 a0 9007199254740991) t160 _ A15.out).mono ?_); rintro e w24 ⟨rfl, hb⟩; refine ⟨_, rfl, ?_⟩; have n0_ := Aside0.mk (below_step (by repeat (first | (with_reducible first | exact HB.out | apply below_alloc | apply pw_below_drewN | apply below_drew1) | exact HB.out)) hb); clear HB; have HB := n0_; clear n0_; (try clear hb); (try clear hb2); (try clear hk); (try clear hi)) | ((with_reducible refine gate_callee (f := 8) rfl ?_); refine goesL_ (some 47) rfl rfl Tryd.func8 (by kernel_rfl) rfl #[.int .u64 (Go.bits .or .u64 (Go.bits .or .u64 (IntKind.u64.wrap ((IntKind.u64.wrap (wrap64 (x6_1 + 1023))) * 4503599627370496)) (Go.bits .and .u64 (ji14) 4503599627370495)) 9223372036854775808)] rfl (by (try simp only [List.map_toArray, List.map_cons, List.map_nil]); first | done | (simp only [hji14]; rfl) | rfl | (simp only [List.length_drop, List.length_take]; rfl)) ?_; (with_reducible refine (real_Whole.calls (Go.bits .or .u64 (Go.bits .or .u64 (IntKind.u64.wrap ((IntKind.u64.wrap (wrap64 (x6_1 + 1023))) * 4503599627370496)) (Go.bits .and .u64 (ji14) 4503599627370495)) 9223372036854775808) t161 true _ A18.out).mono ?_); rintro e w' ⟨rfl, ⟨nd, rfl⟩⟩; refine ⟨_, rfl, ?_⟩) | ((with_reducible refine gate_callee (f := 10) rfl ?_); refine goesL_ (some 51) rfl rfl Tryd.func10 (by kernel_rfl) rfl #[.int .u64 (Go.bits .or .u64 (Go.bits .or .u64 (IntKind.u64.wrap ((IntKind.u64.wrap (wrap64 (x6_1 + 1023))) * 4503599627370496)) (Go.bits .and .u64 (ji14) 4503599627370495)) 9223372036854775808)] rfl (by (try simp only [List.map_toArray, List.map_cons, List.map_nil]); first | done | (simp only [hji14]; rfl) | rfl | (simp only [List.length_drop, List.length_take]; rfl)) ?_; (with_reducible refine (real_Kind.calls (Go.bits .or .u64 (Go.bits .or .u64 (IntKind.u64.wrap ((IntKind.u64.wrap (wrap64 (x6_1 + 1023))) * 4503599627370496)) (Go.bits .and .u64 (ji14) 4503599627370495)) 9223372036854775808) t163 _ A19.out).mono ?_); rintro e w' ⟨rfl, ⟨nd, rfl⟩⟩; refine ⟨_, rfl, ?_⟩) | (go_at_call 12; (with_reducible refine (real_Text.calls (Go.bits .or .u64 (Go.bits .or .u64 (IntKind.u64.wrap ((IntKind.u64.wrap (wrap64 (x6_1 + 1023))) * 4503599627370496)) (Go.bits .and .u64 (ji14) 4503599627370495)) 9223372036854775808) t164 _ (Tabs.below HT.out (by repeat (first | (with_reducible first | exact HB.out | apply below_alloc | apply pw_below_drewN | apply below_drew1) | exact HB.out))) A23.out).mono ?_); rintro e w25 ⟨rfl, hb⟩; have n0_ := Aside0.mk (below_step (by repeat (first | (with_reducible first | exact HB.out | apply below_alloc | apply pw_below_drewN | apply below_drew1) | exact HB.out)) hb); clear HB; have HB := n0_; clear n0_; (try clear hb); (try clear hb2); (try clear hk); (try clear hi)))
                          go_ret
                          exact ⟨by first | rfl | (simp [errW_none, errW_some] <;> rfl) | (simp only [← hji8, ← hji10, ← hji12, ← hji14]; first | rfl | (simp [errW_none, errW_some] <;> rfl)) | (simp [*, errW_none, errW_some] <;> rfl), by repeat (first | (with_reducible first | exact HB.out | apply below_alloc | apply pw_below_drewN | apply below_drew1) | exact HB.out)⟩
                        · rw [if_neg c22] at H
                          have c22b0 : (t161 == (wrap64 (-(Go.bits .and .i64 a0 9007199254740991)))) = false := beq_eq_false_iff_ne.mpr c22
                          have c22b1 : (t161 != (wrap64 (-(Go.bits .and .i64 a0 9007199254740991)))) = true := bne_iff_ne.mpr c22
                          obtain rfl := Option.some.inj H
                          go_wp2_with (first | ((with_reducible refine gate_callee (f := 15) rfl ?_); refine goesL_ (some 37) rfl rfl Tryd.func15 (by kernel_rfl) rfl #[.int .i64 (Go.bits .and .i64 a0 9007199254740991)] rfl (by (try simp only [List.map_toArray, List.map_cons, List.map_nil]); first | done | rfl | (simp only [List.length_drop, List.length_take]; rfl)) ?_; (with_reducible refine (stoleref0_Decimal.calls k1 (Go.bits .and .i64 a0 9007199254740991) t160 _ A15.out).mono ?_); rintro e w26 ⟨rfl, hb⟩; refine ⟨_, rfl, ?_⟩; have n0_ := Aside0.mk (below_step (by repeat (first | (with_reducible first | exact HB.out | apply below_alloc | apply pw_below_drewN | apply below_drew1) | exact HB.out)) hb); clear HB; have HB := n0_; clear n0_; (try clear hb); (try clear hb2); (try clear hk); (try clear hi)) | ((with_reducible refine gate_callee (f := 8) rfl ?_); refine goesL_ (some 47) rfl rfl Tryd.func8 (by kernel_rfl) rfl #[.int .u64 (Go.bits .or .u64 (Go.bits .or .u64 (IntKind.u64.wrap ((IntKind.u64.wrap (wrap64 (x6_1 + 1023))) * 4503599627370496)) (Go.bits .and .u64 (ji14) 4503599627370495)) 9223372036854775808)] rfl (by (try simp only [List.map_toArray, List.map_cons, List.map_nil]); first | done | (simp only [hji14]; rfl) | rfl | (simp only [List.length_drop, List.length_take]; rfl)) ?_; (with_reducible refine (real_Whole.calls (Go.bits .or .u64 (Go.bits .or .u64 (IntKind.u64.wrap ((IntKind.u64.wrap (wrap64 (x6_1 + 1023))) * 4503599627370496)) (Go.bits .and .u64 (ji14) 4503599627370495)) 9223372036854775808) t161 true _ A18.out).mono ?_); rintro e w' ⟨rfl, ⟨nd, rfl⟩⟩; refine ⟨_, rfl, ?_⟩) | ((with_reducible refine gate_callee (f := 10) rfl ?_); refine goesL_ (some 51) rfl rfl Tryd.func10 (by kernel_rfl) rfl #[.int .u64 (Go.bits .or .u64 (Go.bits .or .u64 (IntKind.u64.wrap ((IntKind.u64.wrap (wrap64 (x6_1 + 1023))) * 4503599627370496)) (Go.bits .and .u64 (ji14) 4503599627370495)) 9223372036854775808)] rfl (by (try simp only [List.map_toArray, List.map_cons, List.map_nil]); first | done | (simp only [hji14]; rfl) | rfl | (simp only [List.length_drop, List.length_take]; rfl)) ?_; (with_reducible refine (real_Kind.calls (Go.bits .or .u64 (Go.bits .or .u64 (IntKind.u64.wrap ((IntKind.u64.wrap (wrap64 (x6_1 + 1023))) * 4503599627370496)) (Go.bits .and .u64 (ji14) 4503599627370495)) 9223372036854775808) t163 _ A19.out).mono ?_); rintro e w' ⟨rfl, ⟨nd, rfl⟩⟩; refine ⟨_, rfl, ?_⟩))
                          go_ret
                          exact ⟨by first | rfl | (simp [errW_none, errW_some] <;> rfl) | (simp only [← hji8, ← hji10, ← hji12, ← hji14]; first | rfl | (simp [errW_none, errW_some] <;> rfl)) | (simp [*, errW_none, errW_some] <;> rfl), by repeat (first | (with_reducible first | exact HB.out | apply below_alloc | apply pw_below_drewN | apply below_drew1) | exact HB.out)⟩
                      · replace c21 := Bool.eq_false_iff.mpr c21
                        subst c21
                        have H1 : (some false) = some r := by rw [if_neg (show ¬ (false = true) by decide)] at H; exact H
                        clear H
                        have H := H1
                        clear H1
                        obtain rfl := Option.some.inj H
                        go_wp2_with (first | ((with_reducible refine gate_callee (f := 15) rfl ?_); refine goesL_ (some 37) rfl rfl Tryd.func15 (by kernel_rfl) rfl #[.int .i64 (Go.bits .and .i64 a0 9007199254740991)] rfl (by (try simp only [List.map_toArray, List.map_cons, List.map_nil]); first | done | rfl | (simp only [List.length_drop, List.length_take]; rfl)) ?_; (with_reducible refine (stoleref0_Decimal.calls k1 (Go.bits .and .i64 a0 9007199254740991) t160 _ A15.out).mono ?_); rintro e w27 ⟨rfl, hb⟩; refine ⟨_, rfl, ?_⟩; have n0_ := Aside0.mk (below_step (by repeat (first | (with_reducible first | exact HB.out | apply below_alloc | apply pw_below_drewN | apply below_drew1) | exact HB.out)) hb); clear HB; have HB := n0_; clear n0_; (try clear hb); (try clear hb2); (try clear hk); (try clear hi)) | ((with_reducible refine gate_callee (f := 8) rfl ?_); refine goesL_ (some 47) rfl rfl Tryd.func8 (by kernel_rfl) rfl #[.int .u64 (Go.bits .or .u64 (Go.bits .or .u64 (IntKind.u64.wrap ((IntKind.u64.wrap (wrap64 (x6_1 + 1023))) * 4503599627370496)) (Go.bits .and .u64 (ji14) 4503599627370495)) 9223372036854775808)] rfl (by (try simp only [List.map_toArray, List.map_cons, List.map_nil]); first | done | (simp only [hji14]; rfl) | rfl | (simp only [List.length_drop, List.length_take]; rfl)) ?_; (with_reducible refine (real_Whole.calls (Go.bits .or .u64 (Go.bits .or .u64 (IntKind.u64.wrap ((IntKind.u64.wrap (wrap64 (x6_1 + 1023))) * 4503599627370496)) (Go.bits .and .u64 (ji14) 4503599627370495)) 9223372036854775808) t161 false _ A18.out).mono ?_); rintro e w' ⟨rfl, ⟨nd, rfl⟩⟩; refine ⟨_, rfl, ?_⟩) | ((with_reducible refine gate_callee (f := 10) rfl ?_); refine goesL_ (some 51) rfl rfl Tryd.func10 (by kernel_rfl) rfl #[.int .u64 (Go.bits .or .u64 (Go.bits .or .u64 (IntKind.u64.wrap ((IntKind.u64.wrap (wrap64 (x6_1 + 1023))) * 4503599627370496)) (Go.bits .and .u64 (ji14) 4503599627370495)) 9223372036854775808)] rfl (by (try simp only [List.map_toArray, List.map_cons, List.map_nil]); first | done | (simp only [hji14]; rfl) | rfl | (simp only [List.length_drop, List.length_take]; rfl)) ?_; (with_reducible refine (real_Kind.calls (Go.bits .or .u64 (Go.bits .or .u64 (IntKind.u64.wrap ((IntKind.u64.wrap (wrap64 (x6_1 + 1023))) * 4503599627370496)) (Go.bits .and .u64 (ji14) 4503599627370495)) 9223372036854775808) t163 _ A19.out).mono ?_); rintro e w' ⟨rfl, ⟨nd, rfl⟩⟩; refine ⟨_, rfl, ?_⟩))
                        go_ret
                        exact ⟨by first | rfl | (simp [errW_none, errW_some] <;> rfl) | (simp only [← hji8, ← hji10, ← hji12, ← hji14]; first | rfl | (simp [errW_none, errW_some] <;> rfl)) | (simp [*, errW_none, errW_some] <;> rfl), by repeat (first | (with_reducible first | exact HB.out | apply below_alloc | apply pw_below_drewN | apply below_drew1) | exact HB.out)⟩
                    · rw [if_neg c20] at H
                      have c20b0 : (t163 == 3) = false := beq_eq_false_iff_ne.mpr c20
                      have c20b1 : (t163 != 3) = true := bne_iff_ne.mpr c20
                      obtain rfl := Option.some.inj H
                      go_wp2_with (first | ((with_reducible refine gate_callee (f := 15) rfl ?_); refine goesL_ (some 37) rfl rfl Tryd.func15 (by kernel_rfl) rfl #[.int .i64 (Go.bits .and .i64 a0 9007199254740991)] rfl (by (try simp only [List.map_toArray, List.map_cons, List.map_nil]); first | done | rfl | (simp only [List.length_drop, List.length_take]; rfl)) ?_; (with_reducible refine (stoleref0_Decimal.calls k1 (Go.bits .and .i64 a0 9007199254740991) t160 _ A15.out).mono ?_); rintro e w28 ⟨rfl, hb⟩; refine ⟨_, rfl, ?_⟩; have n0_ := Aside0.mk (below_step (by repeat (first | (with_reducible first | exact HB.out | apply below_alloc | apply pw_below_drewN | apply below_drew1) | exact HB.out)) hb); clear HB; have HB := n0_; clear n0_; (try clear hb); (try clear hb2); (try clear hk); (try clear hi)) | ((with_reducible refine gate_callee (f := 8) rfl ?_); refine goesL_ (some 47) rfl rfl Tryd.func8 (by kernel_rfl) rfl #[.int .u64 (Go.bits .or .u64 (Go.bits .or .u64 (IntKind.u64.wrap ((IntKind.u64.wrap (wrap64 (x6_1 + 1023))) * 4503599627370496)) (Go.bits .and .u64 (ji14) 4503599627370495)) 9223372036854775808)] rfl (by (try simp only [List.map_toArray, List.map_cons, List.map_nil]); first | done | (simp only [hji14]; rfl) | rfl | (simp only [List.length_drop, List.length_take]; rfl)) ?_; (with_reducible refine (real_Whole.calls (Go.bits .or .u64 (Go.bits .or .u64 (IntKind.u64.wrap ((IntKind.u64.wrap (wrap64 (x6_1 + 1023))) * 4503599627370496)) (Go.bits .and .u64 (ji14) 4503599627370495)) 9223372036854775808) t161 t162 _ A18.out).mono ?_); rintro e w' ⟨rfl, ⟨nd, rfl⟩⟩; refine ⟨_, rfl, ?_⟩) | ((with_reducible refine gate_callee (f := 10) rfl ?_); refine goesL_ (some 51) rfl rfl Tryd.func10 (by kernel_rfl) rfl #[.int .u64 (Go.bits .or .u64 (Go.bits .or .u64 (IntKind.u64.wrap ((IntKind.u64.wrap (wrap64 (x6_1 + 1023))) * 4503599627370496)) (Go.bits .and .u64 (ji14) 4503599627370495)) 9223372036854775808)] rfl (by (try simp only [List.map_toArray, List.map_cons, List.map_nil]); first | done | (simp only [hji14]; rfl) | rfl | (simp only [List.length_drop, List.length_take]; rfl)) ?_; (with_reducible refine (real_Kind.calls (Go.bits .or .u64 (Go.bits .or .u64 (IntKind.u64.wrap ((IntKind.u64.wrap (wrap64 (x6_1 + 1023))) * 4503599627370496)) (Go.bits .and .u64 (ji14) 4503599627370495)) 9223372036854775808) t163 _ A19.out).mono ?_); rintro e w' ⟨rfl, ⟨nd, rfl⟩⟩; refine ⟨_, rfl, ?_⟩))
                      go_ret
                      exact ⟨by first | rfl | (simp [errW_none, errW_some] <;> rfl) | (simp only [← hji8, ← hji10, ← hji12, ← hji14]; first | rfl | (simp [errW_none, errW_some] <;> rfl)) | (simp [*, errW_none, errW_some] <;> rfl), by repeat (first | (with_reducible first | exact HB.out | apply below_alloc | apply pw_below_drewN | apply below_drew1) | exact HB.out)⟩
                  · rw [if_neg c17] at H
                    exact absurd H (by simp)
                · replace c16 := Bool.eq_false_iff.mpr c16
                  subst c16
                  have H1 : ((real_Whole.f (Go.bits .or .u64 (IntKind.u64.wrap ((IntKind.u64.wrap (wrap64 (x6_1 + 1023))) * 4503599627370496)) (Go.bits .and .u64 (ji14) 4503599627370495))).bind fun bt165 => ((real_Kind.f (Go.bits .or .u64 (IntKind.u64.wrap ((IntKind.u64.wrap (wrap64 (x6_1 + 1023))) * 4503599627370496)) (Go.bits .and .u64 (ji14) 4503599627370495))).bind fun t167 => (if t167 = 3 then (if bt165.2 = true then (if bt165.1 = (Go.bits .and .i64 a0 9007199254740991) then ((real_Text.f (Go.bits .or .u64 (IntKind.u64.wrap ((IntKind.u64.wrap (wrap64 (x6_1 + 1023))) * 4503599627370496)) (Go.bits .and .u64 (ji14) 4503599627370495))).bind fun t168 => (some (t168.toList == t160.toList))) else (some false)) else (some false)) else (some false)))) = some r := by rw [if_neg (show ¬ (false = true) by decide)] at H; exact H
                  clear H
                  have H := H1
                  clear H1
                  replace H := Option.bind_eq_some_iff.mp H
                  obtain ⟨⟨t165, t166⟩, A290, H⟩ := H
                  replace H : ((real_Kind.f (Go.bits .or .u64 (IntKind.u64.wrap ((IntKind.u64.wrap (wrap64 (x6_1 + 1023))) * 4503599627370496)) (Go.bits .and .u64 (ji14) 4503599627370495))).bind fun t167 => (if t167 = 3 then (if t166 = true then (if t165 = (Go.bits .and .i64 a0 9007199254740991) then ((real_Text.f (Go.bits .or .u64 (IntKind.u64.wrap ((IntKind.u64.wrap (wrap64 (x6_1 + 1023))) * 4503599627370496)) (Go.bits .and .u64 (ji14) 4503599627370495))).bind fun t168 => (some (t168.toList == t160.toList))) else (some false)) else (some false)) else (some false))) = some r := H
                  have A29 := Aside0.mk A290
                  clear A290
                  replace H := Option.bind_eq_some_iff.mp H
                  obtain ⟨t167, A300, H⟩ := H
                  replace H : (if t167 = 3 then (if t166 = true then (if t165 = (Go.bits .and .i64 a0 9007199254740991) then ((real_Text.f (Go.bits .or .u64 (IntKind.u64.wrap ((IntKind.u64.wrap (wrap64 (x6_1 + 1023))) * 4503599627370496)) (Go.bits .and .u64 (ji14) 4503599627370495))).bind fun t168 => (some (t168.toList == t160.toList))) else (some false)) else (some false)) else (some false)) = some r := H
                  have A30 := Aside0.mk A300
                  clear A300
                  by_cases c31 : t167 = 3
                  · rw [if_pos c31] at H
                    have c31b0 : (t167 == 3) = true := beq_iff_eq.mpr c31
                    have c31b1 : (t167 != 3) = false := bne_eq_false_iff_eq.mpr c31
                    clear c31
                    by_cases c32 : t166 = true
                    · subst c32
                      have H1 : (if t165 = (Go.bits .and .i64 a0 9007199254740991) then ((real_Text.f (Go.bits .or .u64 (IntKind.u64.wrap ((IntKind.u64.wrap (wrap64 (x6_1 + 1023))) * 4503599627370496)) (Go.bits .and .u64 (ji14) 4503599627370495))).bind fun t168 => (some (t168.toList == t160.toList))) else (some false)) = some r := by rw [if_pos rfl] at H; exact H
                      clear H
                      have H := H1
                      clear H1
                      by_cases c33 : t165 = (Go.bits .and .i64 a0 9007199254740991)
                      · rw [if_pos c33] at H
                        have c33b0 : (t165 == (Go.bits .and .i64 a0 9007199254740991)) = true := beq_iff_eq.mpr c33
                        have c33b1 : (t165 != (Go.bits .and .i64 a0 9007199254740991)) = false := bne_eq_false_iff_eq.mpr c33
                        clear c33
                        replace H := Option.bind_eq_some_iff.mp H
                        obtain ⟨t168, A340, H⟩ := H
                        replace H : (some (t168.toList == t160.toList)) = some r := H
                        have A34 := Aside0.mk A340
                        clear A340
                        obtain rfl := Option.some.inj H
                        go_wp2_with (first | ((with_reducible refine gate_callee (f := 15) rfl ?_); refine goesL_ (some 37) rfl rfl Tryd.func15 (by kernel_rfl) rfl #[.int .i64 (Go.bits .and .i64 a0 9007199254740991)] rfl (by (try simp only [List.map_toArray, List.map_cons, List.map_nil]); first | done | rfl | (simp only [List.length_drop, List.length_take]; rfl)) ?_; (with_reducible refine (stoleref0_Decimal.calls k1 (Go.bits .and .i64 a0 9007199254740991) t160 _ A15.out).mono ?_); rintro e w35 ⟨rfl, hb⟩; refine ⟨_, rfl, ?_⟩; have n0_ := Aside0.mk (below_step (by repeat (first | (with_reducible first | exact HB.out | apply below_alloc | apply pw_below_drewN | apply below_drew1) | exact HB.out)) hb); clear HB; have HB := n0_; clear n0_; (try clear hb); (try clear hb2); (try clear hk); (try clear hi)) | ((with_reducible refine gate_callee (f := 8) rfl ?_); refine goesL_ (some 47) rfl rfl Tryd.func8 (by kernel_rfl) rfl #[.int .u64 (Go.bits .or .u64 (IntKind.u64.wrap ((IntKind.u64.wrap (wrap64 (x6_1 + 1023))) * 4503599627370496)) (Go.bits .and .u64 (ji14) 4503599627370495))] rfl (by (try simp only [List.map_toArray, List.map_cons, List.map_nil]); first | done | (simp only [hji14]; rfl) | rfl | (simp only [List.length_drop, List.length_take]; rfl)) ?_; (with_reducible refine (real_Whole.calls (Go.bits .or .u64 (IntKind.u64.wrap ((IntKind.u64.wrap (wrap64 (x6_1 + 1023))) * 4503599627370496)) (Go.bits .and .u64 (ji14) 4503599627370495)) t165 true _ A29.out).mono ?_); rintro e w' ⟨rfl, ⟨nd, rfl⟩⟩; refine ⟨_, rfl, ?_⟩) | ((with_reducible refine gate_callee (f := 10) rfl ?_); refine goesL_ (some 51) rfl rfl Tryd.func10 (by kernel_rfl) rfl #[.int .u64 (Go.bits .or .u64 (IntKind.u64.wrap ((IntKind.u64.wrap (wrap64 (x6_1 + 1023))) * 4503599627370496)) (Go.bits .and .u64 (ji14) 4503599627370495))] rfl (by (try simp only [List.map_toArray, List.map_cons, List.map_nil]); first | done | (simp only [hji14]; rfl) | rfl | (simp only [List.length_drop, List.length_take]; rfl)) ?_; (with_reducible refine (real_Kind.calls (Go.bits .or .u64 (IntKind.u64.wrap ((IntKind.u64.wrap (wrap64 (x6_1 + 1023))) * 4503599627370496)) (Go.bits .and .u64 (ji14) 4503599627370495)) t167 _ A30.out).mono ?_); rintro e w' ⟨rfl, ⟨nd, rfl⟩⟩; refine ⟨_, rfl, ?_⟩) | (go_at_call 12; (with_reducible refine (real_Text.calls (Go.bits .or .u64 (IntKind.u64.wrap ((IntKind.u64.wrap (wrap64 (x6_1 + 1023))) * 4503599627370496)) (Go.bits .and .u64 (ji14) 4503599627370495)) t168 _ (Tabs.below HT.out (by repeat (first | (with_reducible first | exact HB.out | apply below_alloc | apply pw_below_drewN | apply below_drew1) | exact HB.out))) A34.out).mono ?_); rintro e w36 ⟨rfl, hb⟩; have n0_ := Aside0.mk (below_step (by repeat (first | (with_reducible first | exact HB.out | apply below_alloc | apply pw_below_drewN | apply below_drew1) | exact HB.out)) hb); clear HB; have HB := n0_; clear n0_; (try clear hb); (try clear hb2); (try clear hk); (try clear hi)))
                        go_ret
                        exact ⟨by first | rfl | (simp [errW_none, errW_some] <;> rfl) | (simp only [← hji8, ← hji10, ← hji12, ← hji14]; first | rfl | (simp [errW_none, errW_some] <;> rfl)) | (simp [*, errW_none, errW_some] <;> rfl), by repeat (first | (with_reducible first | exact HB.out | apply below_alloc | apply pw_below_drewN | apply below_drew1) | exact HB.out)⟩
                      · rw [if_neg c33] at H
                        have c33b0 : (t165 == (Go.bits .and .i64 a0 9007199254740991)) = false := beq_eq_false_iff_ne.mpr c33
                        have c33b1 : (t165 != (Go.bits .and .i64 a0 9007199254740991)) = true := bne_iff_ne.mpr c33
                        obtain rfl := Option.some.inj H
                        go_wp2_with (first | ((with_reducible refine gate_callee (f := 15) rfl ?_); refine goesL_ (some 37) rfl rfl Tryd.func15 (by kernel_rfl) rfl #[.int .i64 (Go.bits .and .i64 a0 9007199254740991)] rfl (by (try simp only [List.map_toArray, List.map_cons, List.map_nil]); first | done | rfl | (simp only [List.length_drop, List.length_take]; rfl)) ?_; (with_reducible refine (stoleref0_Decimal.calls k1 (Go.bits .and .i64 a0 9007199254740991) t160 _ A15.out).mono ?_); rintro e w37 ⟨rfl, hb⟩; refine ⟨_, rfl, ?_⟩; have n0_ := Aside0.mk (below_step (by repeat (first | (with_reducible first | exact HB.out | apply below_alloc | apply pw_below_drewN | apply below_drew1) | exact HB.out)) hb); clear HB; have HB := n0_; clear n0_; (try clear hb); (try clear hb2); (try clear hk); (try clear hi)) | ((with_reducible refine gate_callee (f := 8) rfl ?_); refine goesL_ (some 47) rfl rfl Tryd.func8 (by kernel_rfl) rfl #[.int .u64 (Go.bits .or .u64 (IntKind.u64.wrap ((IntKind.u64.wrap (wrap64 (x6_1 + 1023))) * 4503599627370496)) (Go.bits .and .u64 (ji14) 4503599627370495))] rfl (by (try simp only [List.map_toArray, List.map_cons, List.map_nil]); first | done | (simp only [hji14]; rfl) | rfl | (simp only [List.length_drop, List.length_take]; rfl)) ?_; (with_reducible refine (real_Whole.calls (Go.bits .or .u64 (IntKind.u64.wrap ((IntKind.u64.wrap (wrap64 (x6_1 + 1023))) * 4503599627370496)) (Go.bits .and .u64 (ji14) 4503599627370495)) t165 true _ A29.out).mono ?_); rintro e w' ⟨rfl, ⟨nd, rfl⟩⟩; refine ⟨_, rfl, ?_⟩) | ((with_reducible refine gate_callee (f := 10) rfl ?_); refine goesL_ (some 51) rfl rfl Tryd.func10 (by kernel_rfl) rfl #[.int .u64 (Go.bits .or .u64 (IntKind.u64.wrap ((IntKind.u64.wrap (wrap64 (x6_1 + 1023))) * 4503599627370496)) (Go.bits .and .u64 (ji14) 4503599627370495))] rfl (by (try simp only [List.map_toArray, List.map_cons, List.map_nil]); first | done | (simp only [hji14]; rfl) | rfl | (simp only [List.length_drop, List.length_take]; rfl)) ?_; (with_reducible refine (real_Kind.calls (Go.bits .or .u64 (IntKind.u64.wrap ((IntKind.u64.wrap (wrap64 (x6_1 + 1023))) * 4503599627370496)) (Go.bits .and .u64 (ji14) 4503599627370495)) t167 _ A30.out).mono ?_); rintro e w' ⟨rfl, ⟨nd, rfl⟩⟩; refine ⟨_, rfl, ?_⟩))
                        go_ret
                        exact ⟨by first | rfl | (simp [errW_none, errW_some] <;> rfl) | (simp only [← hji8, ← hji10, ← hji12, ← hji14]; first | rfl | (simp [errW_none, errW_some] <;> rfl)) | (simp [*, errW_none, errW_some] <;> rfl), by repeat (first | (with_reducible first | exact HB.out | apply below_alloc | apply pw_below_drewN | apply below_drew1) | exact HB.out)⟩
                    · replace c32 := Bool.eq_false_iff.mpr c32
                      subst c32
                      have H1 : (some false) = some r := by rw [if_neg (show ¬ (false = true) by decide)] at H; exact H
                      clear H
                      have H := H1
                      clear H1
                      obtain rfl := Option.some.inj H
                      go_wp2_with (first | ((with_reducible refine gate_callee (f := 15) rfl ?_); refine goesL_ (some 37) rfl rfl Tryd.func15 (by kernel_rfl) rfl #[.int .i64 (Go.bits .and .i64 a0 9007199254740991)] rfl (by (try simp only [List.map_toArray, List.map_cons, List.map_nil]); first | done | rfl | (simp only [List.length_drop, List.length_take]; rfl)) ?_; (with_reducible refine (stoleref0_Decimal.calls k1 (Go.bits .and .i64 a0 9007199254740991) t160 _ A15.out).mono ?_); rintro e w38 ⟨rfl, hb⟩; refine ⟨_, rfl, ?_⟩; have n0_ := Aside0.mk (below_step (by repeat (first | (with_reducible first | exact HB.out | apply below_alloc | apply pw_below_drewN | apply below_drew1) | exact HB.out)) hb); clear HB; have HB := n0_; clear n0_; (try clear hb); (try clear hb2); (try clear hk); (try clear hi)) | ((with_reducible refine gate_callee (f := 8) rfl ?_); refine goesL_ (some 47) rfl rfl Tryd.func8 (by kernel_rfl) rfl #[.int .u64 (Go.bits .or .u64 (IntKind.u64.wrap ((IntKind.u64.wrap (wrap64 (x6_1 + 1023))) * 4503599627370496)) (Go.bits .and .u64 (ji14) 4503599627370495))] rfl (by (try simp only [List.map_toArray, List.map_cons, List.map_nil]); first | done | (simp only [hji14]; rfl) | rfl | (simp only [List.length_drop, List.length_take]; rfl)) ?_; (with_reducible refine (real_Whole.calls (Go.bits .or .u64 (IntKind.u64.wrap ((IntKind.u64.wrap (wrap64 (x6_1 + 1023))) * 4503599627370496)) (Go.bits .and .u64 (ji14) 4503599627370495)) t165 false _ A29.out).mono ?_); rintro e w' ⟨rfl, ⟨nd, rfl⟩⟩; refine ⟨_, rfl, ?_⟩) | ((with_reducible refine gate_callee (f := 10) rfl ?_); refine goesL_ (some 51) rfl rfl Tryd.func10 (by kernel_rfl) rfl #[.int .u64 (Go.bits .or .u64 (IntKind.u64.wrap ((IntKind.u64.wrap (wrap64 (x6_1 + 1023))) * 4503599627370496)) (Go.bits .and .u64 (ji14) 4503599627370495))] rfl (by (try simp only [List.map_toArray, List.map_cons, List.map_nil]); first | done | (simp only [hji14]; rfl) | rfl | (simp only [List.length_drop, List.length_take]; rfl)) ?_; (with_reducible refine (real_Kind.calls (Go.bits .or .u64 (IntKind.u64.wrap ((IntKind.u64.wrap (wrap64 (x6_1 + 1023))) * 4503599627370496)) (Go.bits .and .u64 (ji14) 4503599627370495)) t167 _ A30.out).mono ?_); rintro e w' ⟨rfl, ⟨nd, rfl⟩⟩; refine ⟨_, rfl, ?_⟩))
                      go_ret
                      exact ⟨by first | rfl | (simp [errW_none, errW_some] <;> rfl) | (simp only [← hji8, ← hji10, ← hji12, ← hji14]; first | rfl | (simp [errW_none, errW_some] <;> rfl)) | (simp [*, errW_none, errW_some] <;> rfl), by repeat (first | (with_reducible first | exact HB.out | apply below_alloc | apply pw_below_drewN | apply below_drew1) | exact HB.out)⟩
                  · rw [if_neg c31] at H
                    have c31b0 : (t167 == 3) = false := beq_eq_false_iff_ne.mpr c31
                    have c31b1 : (t167 != 3) = true := bne_iff_ne.mpr c31
                    obtain rfl := Option.some.inj H
                    go_wp2_with (first | ((with_reducible refine gate_callee (f := 15) rfl ?_); refine goesL_ (some 37) rfl rfl Tryd.func15 (by kernel_rfl) rfl #[.int .i64 (Go.bits .and .i64 a0 9007199254740991)] rfl (by (try simp only [List.map_toArray, List.map_cons, List.map_nil]); first | done | rfl | (simp only [List.length_drop, List.length_take]; rfl)) ?_; (with_reducible refine (stoleref0_Decimal.calls k1 (Go.bits .and .i64 a0 9007199254740991) t160 _ A15.out).mono ?_); rintro e w39 ⟨rfl, hb⟩; refine ⟨_, rfl, ?_⟩; have n0_ := Aside0.mk (below_step (by repeat (first | (with_reducible first | exact HB.out | apply below_alloc | apply pw_below_drewN | apply below_drew1) | exact HB.out)) hb); clear HB; have HB := n0_; clear n0_; (try clear hb); (try clear hb2); (try clear hk); (try clear hi)) | ((with_reducible refine gate_callee (f := 8) rfl ?_); refine goesL_ (some 47) rfl rfl Tryd.func8 (by kernel_rfl) rfl #[.int .u64 (Go.bits .or .u64 (IntKind.u64.wrap ((IntKind.u64.wrap (wrap64 (x6_1 + 1023))) * 4503599627370496)) (Go.bits .and .u64 (ji14) 4503599627370495))] rfl (by (try simp only [List.map_toArray, List.map_cons, List.map_nil]); first | done | (simp only [hji14]; rfl) | rfl | (simp only [List.length_drop, List.length_take]; rfl)) ?_; (with_reducible refine (real_Whole.calls (Go.bits .or .u64 (IntKind.u64.wrap ((IntKind.u64.wrap (wrap64 (x6_1 + 1023))) * 4503599627370496)) (Go.bits .and .u64 (ji14) 4503599627370495)) t165 t166 _ A29.out).mono ?_); rintro e w' ⟨rfl, ⟨nd, rfl⟩⟩; refine ⟨_, rfl, ?_⟩) | ((with_reducible refine gate_callee (f := 10) rfl ?_); refine goesL_ (some 51) rfl rfl Tryd.func10 (by kernel_rfl) rfl #[.int .u64 (Go.bits .or .u64 (IntKind.u64.wrap ((IntKind.u64.wrap (wrap64 (x6_1 + 1023))) * 4503599627370496)) (Go.bits .and .u64 (ji14) 4503599627370495))] rfl (by (try simp only [List.map_toArray, List.map_cons, List.map_nil]); first | done | (simp only [hji14]; rfl) | rfl | (simp only [List.length_drop, List.length_take]; rfl)) ?_; (with_reducible refine (real_Kind.calls (Go.bits .or .u64 (IntKind.u64.wrap ((IntKind.u64.wrap (wrap64 (x6_1 + 1023))) * 4503599627370496)) (Go.bits .and .u64 (ji14) 4503599627370495)) t167 _ A30.out).mono ?_); rintro e w' ⟨rfl, ⟨nd, rfl⟩⟩; refine ⟨_, rfl, ?_⟩))
                    go_ret
                    exact ⟨by first | rfl | (simp [errW_none, errW_some] <;> rfl) | (simp only [← hji8, ← hji10, ← hji12, ← hji14]; first | rfl | (simp [errW_none, errW_some] <;> rfl)) | (simp [*, errW_none, errW_some] <;> rfl), by repeat (first | (with_reducible first | exact HB.out | apply below_alloc | apply pw_below_drewN | apply below_drew1) | exact HB.out)⟩
              · rw [if_neg c13] at H
                exact absurd H (by simp)
          · rw [if_neg c9] at H
            exact absurd H (by simp)
  · replace c4 := Bool.eq_false_iff.mpr c4
    subst c4
    have H1 : (some false) = some r := by rw [if_neg (show ¬ (false = true) by decide)] at H; exact H
    clear H
    have H := H1
    clear H1
    obtain rfl := Option.some.inj H
    go_enter Tryd.func4, Tryd.ntmps4
    go_wp2_with (first | ((with_reducible refine gate_callee (f := 14) rfl ?_); refine goesL_ (some 11) rfl rfl Tryd.func14 (by kernel_rfl) rfl #[] rfl (by (try simp only [List.map_toArray, List.map_cons, List.map_nil]); first | done | rfl | (simp only [List.length_drop, List.length_take]; rfl)) ?_; (with_reducible refine (stolelaw3_awake.calls  false _ (Tabs.below HT.out (by repeat (first | (with_reducible first | exact HB.out | apply below_alloc | apply pw_below_drewN | apply below_drew1) | exact HB.out))) A3.out).mono ?_); rintro e w40 ⟨rfl, hb⟩; refine ⟨_, rfl, ?_⟩; have n0_ := Aside0.mk (below_step (by repeat (first | (with_reducible first | exact HB.out | apply below_alloc | apply pw_below_drewN | apply below_drew1) | exact HB.out)) hb); clear HB; have HB := n0_; clear n0_; (try clear hb); (try clear hb2); (try clear hk); (try clear hi)))
    go_ret
    exact ⟨by first | rfl | (simp [errW_none, errW_some] <;> rfl) | (simp [*, errW_none, errW_some] <;> rfl), by repeat (first | (with_reducible first | exact HB.out | apply below_alloc | apply pw_below_drewN | apply below_drew1) | exact HB.out)⟩

/-- THE ONE PURE STATEMENT of stolelaw3_RealWholes: yours. -/
def stolelaw3_RealWholes.Pure : Prop := ∀ (a0 : Int) (a1 : Bool), (Lit.int .i64 a0).wf = true → ∃ k, stolelaw3_RealWholes.f k a0 a1 = some true
theorem stolelaw3_RealWholes.walk (P : stolelaw3_RealWholes.Pure) (a0 : Int) (a1 : Bool) (w : World) (hT : Tabs w) (w0 : (Lit.int .i64 a0).wf = true) :
    Calls Tryd.prog 4 #[.int .i64 a0, .bool a1] w fun e w' => e = .returned (.bool true) ∧ Below w.heap.size w w' := by
  obtain ⟨k, h⟩ := P a0 a1 w0
  refine (stolelaw3_RealWholes.calls k a0 a1 true w hT h).mono ?_
  rintro e w' ⟨rfl, hd⟩
  exact ⟨rfl, hd⟩

end Go.Proofs.YtpknepalceffgaaDoor.Q
