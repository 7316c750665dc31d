-- By splice.py, a program of this session's, over the kit's print: a text of this seat's own.
import Derived.Test.YtpknepalceffgaaDoorQ0
import Derived.Test.YtpknepalceffgaaDoorQ1
import Derived.Test.YtpknepalceffgaaDoorQ2
import Derived.Test.YtpknepalceffgaaDoorRealText
namespace Go.Proofs.YtpknepalceffgaaDoor.Q
open Go.Proofs.YtpknepalceffgaaDoor.Real
open Go.RowKit Go.Proofs.YtpknepalceffgaaDoorW.PrintWords Go.Proofs.YtpknepalceffgaaDoorW.PrintLast Go.Proofs.YtpknepalceffgaaDoorW.PrintMore
attribute [local go_sem] max2_int min2_int max_two min_two max_three min_three max_four min_four   -- for this text's walks alone
set_option linter.unusedVariables false
set_option linter.unusedSimpArgs false

/-! ### stolelaw3_RealOthers: function 5 -/
def stolelaw3_RealOthers.l0 : Nat → Bool → Int → Int → Int → Option (Bool)
  | 0, _, _, _, _ => none
  | k + 1, x2, x7, x8, x9 => if 0 ≤ (IntKind.u64.wrap (x9)) then (if (shr .u64 x7 (IntKind.u64.wrap (x9))) = 0 then (stolelaw3_RealOthers.l0 k x2 x7 x8 (wrap64 (x9 - 1))) else (if 0 ≤ (IntKind.u64.wrap (wrap64 (52 - x9))) then ((stoleref0_Decimal.f k (wrap64 (x7))).bind fun t170 => (if t170.size + 2 ≤ 9223372036854775807 then ((stoleref0_Decimal.f k (wrap64 (-x8))).bind fun t171 => (if (t170 ++ (⟨#[112, 45]⟩ : ByteArray)).size + t171.size ≤ 9223372036854775807 then (if x2 = true then (if 1 + ((t170 ++ (⟨#[112, 45]⟩ : ByteArray)) ++ t171).size ≤ 9223372036854775807 then ((real_Whole.f (Go.bits .or .u64 (Go.bits .or .u64 (IntKind.u64.wrap ((IntKind.u64.wrap (wrap64 ((wrap64 (x8 + x9)) + 1023))) * 4503599627370496)) (Go.bits .and .u64 (shl .u64 x7 (IntKind.u64.wrap (wrap64 (52 - x9)))) 4503599627370495)) 9223372036854775808)).bind fun bt172 => ((real_Kind.f (Go.bits .or .u64 (Go.bits .or .u64 (IntKind.u64.wrap ((IntKind.u64.wrap (wrap64 ((wrap64 (x8 + x9)) + 1023))) * 4503599627370496)) (Go.bits .and .u64 (shl .u64 x7 (IntKind.u64.wrap (wrap64 (52 - x9)))) 4503599627370495)) 9223372036854775808)).bind fun t174 => (if t174 = 4 then ((real_Text.f (Go.bits .or .u64 (Go.bits .or .u64 (IntKind.u64.wrap ((IntKind.u64.wrap (wrap64 ((wrap64 (x8 + x9)) + 1023))) * 4503599627370496)) (Go.bits .and .u64 (shl .u64 x7 (IntKind.u64.wrap (wrap64 (52 - x9)))) 4503599627370495)) 9223372036854775808)).bind fun t175 => (if t175.toList = ((⟨#[45]⟩ : ByteArray) ++ ((t170 ++ (⟨#[112, 45]⟩ : ByteArray)) ++ t171)).toList then (some (!bt172.2)) else (some false))) else (some false)))) else (none)) else ((real_Whole.f (Go.bits .or .u64 (IntKind.u64.wrap ((IntKind.u64.wrap (wrap64 ((wrap64 (x8 + x9)) + 1023))) * 4503599627370496)) (Go.bits .and .u64 (shl .u64 x7 (IntKind.u64.wrap (wrap64 (52 - x9)))) 4503599627370495))).bind fun bt176 => ((real_Kind.f (Go.bits .or .u64 (IntKind.u64.wrap ((IntKind.u64.wrap (wrap64 ((wrap64 (x8 + x9)) + 1023))) * 4503599627370496)) (Go.bits .and .u64 (shl .u64 x7 (IntKind.u64.wrap (wrap64 (52 - x9)))) 4503599627370495))).bind fun t178 => (if t178 = 4 then ((real_Text.f (Go.bits .or .u64 (IntKind.u64.wrap ((IntKind.u64.wrap (wrap64 ((wrap64 (x8 + x9)) + 1023))) * 4503599627370496)) (Go.bits .and .u64 (shl .u64 x7 (IntKind.u64.wrap (wrap64 (52 - x9)))) 4503599627370495))).bind fun t179 => (if t179.toList = ((t170 ++ (⟨#[112, 45]⟩ : ByteArray)) ++ t171).toList then (some (!bt176.2)) else (some false))) else (some false))))) else (none))) else (none))) else (none))) else (none)
def stolelaw3_RealOthers.f (k : Nat) (a0 : Int) (a1 : Int) (a2 : Bool) : Option (Bool) := (stolelaw3_awake.f).bind fun t169 => (if t169 = true then (stolelaw3_RealOthers.l0 k a2 (Go.bits .or .u64 (Go.bits .and .u64 a0 4503599627370495) 1) (wrap64 ((-1) - (Go.bits .and .i64 a1 511))) 51) else (some false))
theorem stolelaw3_RealOthers.mono_l : ∀ k, (∀ y0 y1 y2 y3, LeO (stolelaw3_RealOthers.l0 k y0 y1 y2 y3) (stolelaw3_RealOthers.l0 (k + 1) y0 y1 y2 y3))
  | 0 => fun _ _ _ _ r h => by simp [stolelaw3_RealOthers.l0] at h
  | k + 1 => by
    have ih0 := stolelaw3_RealOthers.mono_l k
    · intro y0 y1 y2 y3
      unfold stolelaw3_RealOthers.l0
      repeat' first
      | (with_reducible exact ih0 _ _ _ _)
      | (with_reducible exact stoleref0_Decimal.mono _ _)
      | (with_reducible exact LeO.refl _)
      | (with_reducible exact LeO.none _)
      | (with_reducible refine LeO.ite ?_ ?_)
      | (with_reducible refine LeO.bind ?_ (fun _ => ?_))
      | exact ih0 _ _ _ _
      | exact stoleref0_Decimal.mono _ _
      | exact LeO.none _
      | refine LeO.ite ?_ ?_
      | refine LeO.bind ?_ (fun _ => ?_)
theorem stolelaw3_RealOthers.mono : ∀ a0 a1 a2 k, LeO (stolelaw3_RealOthers.f k a0 a1 a2) (stolelaw3_RealOthers.f (k + 1) a0 a1 a2) := by
  intro a0 a1 a2 k
  have ih0 := stolelaw3_RealOthers.mono_l k
  unfold stolelaw3_RealOthers.f
  repeat' first
      | (with_reducible exact ih0 _ _ _ _)
      | (with_reducible exact stoleref0_Decimal.mono _ _)
      | (with_reducible exact LeO.refl _)
      | (with_reducible exact LeO.none _)
      | (with_reducible refine LeO.ite ?_ ?_)
      | (with_reducible refine LeO.bind ?_ (fun _ => ?_))
      | exact ih0 _ _ _ _
      | exact stoleref0_Decimal.mono _ _
      | exact LeO.none _
      | refine LeO.ite ?_ ?_
      | refine LeO.bind ?_ (fun _ => ?_)
set_option maxHeartbeats 8000000 in
set_option maxRecDepth 100000 in
theorem stolelaw3_RealOthers.calls (k : Nat) (a0 : Int) (a1 : Int) (a2 : Bool) (r : Bool) (w : World) (hT : Tabs w) (h : stolelaw3_RealOthers.f k a0 a1 a2 = some r) :
    Calls Tryd.prog 5 #[.int .u64 a0, .int .i64 a1, .bool a2] w fun e w' => e = .returned (.bool r) ∧ Below w.heap.size w w' := by
  have HT := Aside0.mk hT
  clear hT
  have HB := Aside0.mk (Below.refl w.heap.size w)
  have H : ((stolelaw3_awake.f).bind fun t169 => (if t169 = true then (stolelaw3_RealOthers.l0 k a2 (Go.bits .or .u64 (Go.bits .and .u64 a0 4503599627370495) 1) (wrap64 ((-1) - (Go.bits .and .i64 a1 511))) 51) else (some false))) = some r := h
  clear h
  replace H := Option.bind_eq_some_iff.mp H
  obtain ⟨t169, A40, H⟩ := H
  replace H : (if t169 = true then (stolelaw3_RealOthers.l0 k a2 (Go.bits .or .u64 (Go.bits .and .u64 a0 4503599627370495) 1) (wrap64 ((-1) - (Go.bits .and .i64 a1 511))) 51) else (some false)) = some r := H
  have A4 := Aside0.mk A40
  clear A40
  by_cases c5 : t169 = true
  · subst c5
    have H1 : (stolelaw3_RealOthers.l0 k a2 (Go.bits .or .u64 (Go.bits .and .u64 a0 4503599627370495) 1) (wrap64 ((-1) - (Go.bits .and .i64 a1 511))) 51) = some r := by rw [if_pos rfl] at H; exact H
    clear H
    have H := H1
    clear H1
    have H' := Aside0.mk H
    clear H
    go_enter Tryd.func5, Tryd.ntmps5
    go_wp2_with (first | ((with_reducible refine gate_callee (f := 14) rfl ?_); refine goesL_ (some 14) rfl rfl Tryd.func14 (by kernel_rfl) rfl #[] rfl (by (try simp only [List.map_toArray, List.map_cons, List.map_nil]); first | done | rfl | (simp only [List.length_drop, List.length_take]; rfl)) ?_; (with_reducible refine (stolelaw3_awake.calls  true _ (Tabs.below HT.out (by repeat (first | (with_reducible first | exact HB.out | apply below_alloc | apply pw_below_drewN | apply below_drew1) | exact HB.out))) A4.out).mono ?_); rintro e w6 ⟨rfl, hb⟩; refine ⟨_, rfl, ?_⟩; have n0_ := Aside0.mk (below_step (by repeat (first | (with_reducible first | exact HB.out | apply below_alloc | apply pw_below_drewN | apply below_drew1) | exact HB.out)) hb); clear HB; have HB := n0_; clear n0_; (try clear hb); (try clear hb2); (try clear hk); (try clear hi)))
    go_loopg [9] k (fun kq v9 w' => ∃ (x9_1 : Int), v9 = .int .i64 x9_1 ∧ Aside0 (stolelaw3_RealOthers.l0 kq a2 (Go.bits .or .u64 (Go.bits .and .u64 a0 4503599627370495) 1) (wrap64 ((-1) - (Go.bits .and .i64 a1 511))) x9_1 = some r) ∧ Aside0 (kq ≤ k) ∧ Aside0 (Below w.heap.size w w'))
    case atStart => exact ⟨(51), (by first | rfl | (simp; done) | (simp [*]; done)), H', ⟨Nat.le_refl _⟩, ⟨by repeat (first | (with_reducible first | exact HB.out | apply below_alloc | apply pw_below_drewN | apply below_drew1) | exact HB.out)⟩⟩
    case round =>
      clear H'
      try clear c1
      try clear p2
      try clear c5
      try clear p6
      obtain ⟨x9_1, rfl, HA, HK1, HB⟩ := hrel
      cases gk with
      | zero => exact absurd HA.out (by simp [stolelaw3_RealOthers.l0])
      | succ k1 =>
        have H := HA.out
        clear HA
        simp only [stolelaw3_RealOthers.l0] at H
        obtain ⟨ji7, hji7⟩ : ∃ j_ : Int, (IntKind.u64.wrap (x9_1)) = j_ := ⟨_, rfl⟩
        replace H : (if 0 ≤ (ji7) then (if (shr .u64 (Go.bits .or .u64 (Go.bits .and .u64 a0 4503599627370495) 1) (ji7)) = 0 then (stolelaw3_RealOthers.l0 k1 a2 (Go.bits .or .u64 (Go.bits .and .u64 a0 4503599627370495) 1) (wrap64 ((-1) - (Go.bits .and .i64 a1 511))) (wrap64 (x9_1 - 1))) else (if 0 ≤ (IntKind.u64.wrap (wrap64 (52 - x9_1))) then ((stoleref0_Decimal.f k1 (wrap64 ((Go.bits .or .u64 (Go.bits .and .u64 a0 4503599627370495) 1)))).bind fun t170 => (if t170.size + 2 ≤ 9223372036854775807 then ((stoleref0_Decimal.f k1 (wrap64 (-(wrap64 ((-1) - (Go.bits .and .i64 a1 511)))))).bind fun t171 => (if (t170 ++ (⟨#[112, 45]⟩ : ByteArray)).size + t171.size ≤ 9223372036854775807 then (if a2 = true then (if 1 + ((t170 ++ (⟨#[112, 45]⟩ : ByteArray)) ++ t171).size ≤ 9223372036854775807 then ((real_Whole.f (Go.bits .or .u64 (Go.bits .or .u64 (IntKind.u64.wrap ((IntKind.u64.wrap (wrap64 ((wrap64 ((wrap64 ((-1) - (Go.bits .and .i64 a1 511))) + x9_1)) + 1023))) * 4503599627370496)) (Go.bits .and .u64 (shl .u64 (Go.bits .or .u64 (Go.bits .and .u64 a0 4503599627370495) 1) (IntKind.u64.wrap (wrap64 (52 - x9_1)))) 4503599627370495)) 9223372036854775808)).bind fun bt172 => ((real_Kind.f (Go.bits .or .u64 (Go.bits .or .u64 (IntKind.u64.wrap ((IntKind.u64.wrap (wrap64 ((wrap64 ((wrap64 ((-1) - (Go.bits .and .i64 a1 511))) + x9_1)) + 1023))) * 4503599627370496)) (Go.bits .and .u64 (shl .u64 (Go.bits .or .u64 (Go.bits .and .u64 a0 4503599627370495) 1) (IntKind.u64.wrap (wrap64 (52 - x9_1)))) 4503599627370495)) 9223372036854775808)).bind fun t174 => (if t174 = 4 then ((real_Text.f (Go.bits .or .u64 (Go.bits .or .u64 (IntKind.u64.wrap ((IntKind.u64.wrap (wrap64 ((wrap64 ((wrap64 ((-1) - (Go.bits .and .i64 a1 511))) + x9_1)) + 1023))) * 4503599627370496)) (Go.bits .and .u64 (shl .u64 (Go.bits .or .u64 (Go.bits .and .u64 a0 4503599627370495) 1) (IntKind.u64.wrap (wrap64 (52 - x9_1)))) 4503599627370495)) 9223372036854775808)).bind fun t175 => (if t175.toList = ((⟨#[45]⟩ : ByteArray) ++ ((t170 ++ (⟨#[112, 45]⟩ : ByteArray)) ++ t171)).toList then (some (!bt172.2)) else (some false))) else (some false)))) else (none)) else ((real_Whole.f (Go.bits .or .u64 (IntKind.u64.wrap ((IntKind.u64.wrap (wrap64 ((wrap64 ((wrap64 ((-1) - (Go.bits .and .i64 a1 511))) + x9_1)) + 1023))) * 4503599627370496)) (Go.bits .and .u64 (shl .u64 (Go.bits .or .u64 (Go.bits .and .u64 a0 4503599627370495) 1) (IntKind.u64.wrap (wrap64 (52 - x9_1)))) 4503599627370495))).bind fun bt176 => ((real_Kind.f (Go.bits .or .u64 (IntKind.u64.wrap ((IntKind.u64.wrap (wrap64 ((wrap64 ((wrap64 ((-1) - (Go.bits .and .i64 a1 511))) + x9_1)) + 1023))) * 4503599627370496)) (Go.bits .and .u64 (shl .u64 (Go.bits .or .u64 (Go.bits .and .u64 a0 4503599627370495) 1) (IntKind.u64.wrap (wrap64 (52 - x9_1)))) 4503599627370495))).bind fun t178 => (if t178 = 4 then ((real_Text.f (Go.bits .or .u64 (IntKind.u64.wrap ((IntKind.u64.wrap (wrap64 ((wrap64 ((wrap64 ((-1) - (Go.bits .and .i64 a1 511))) + x9_1)) + 1023))) * 4503599627370496)) (Go.bits .and .u64 (shl .u64 (Go.bits .or .u64 (Go.bits .and .u64 a0 4503599627370495) 1) (IntKind.u64.wrap (wrap64 (52 - x9_1)))) 4503599627370495))).bind fun t179 => (if t179.toList = ((t170 ++ (⟨#[112, 45]⟩ : ByteArray)) ++ t171).toList then (some (!bt176.2)) else (some false))) else (some false))))) else (none))) else (none))) else (none))) else (none)) = some r := by first | (rw [hji7] at H; exact H) | (simp only [hji7] at H ⊢; exact H)
        by_cases c8 : 0 ≤ (ji7)
        · rw [if_pos c8] at H
          have c8b0 := eq_true c8
          have c8b1 : decide (0 ≤ (ji7)) = true := decide_eq_true c8
          clear c8
          obtain ⟨ji9, hji9⟩ : ∃ j_ : Int, (shr .u64 (Go.bits .or .u64 (Go.bits .and .u64 a0 4503599627370495) 1) (ji7)) = j_ := ⟨_, rfl⟩
          replace H : (if (ji9) = 0 then (stolelaw3_RealOthers.l0 k1 a2 (Go.bits .or .u64 (Go.bits .and .u64 a0 4503599627370495) 1) (wrap64 ((-1) - (Go.bits .and .i64 a1 511))) (wrap64 (x9_1 - 1))) else (if 0 ≤ (IntKind.u64.wrap (wrap64 (52 - x9_1))) then ((stoleref0_Decimal.f k1 (wrap64 ((Go.bits .or .u64 (Go.bits .and .u64 a0 4503599627370495) 1)))).bind fun t170 => (if t170.size + 2 ≤ 9223372036854775807 then ((stoleref0_Decimal.f k1 (wrap64 (-(wrap64 ((-1) - (Go.bits .and .i64 a1 511)))))).bind fun t171 => (if (t170 ++ (⟨#[112, 45]⟩ : ByteArray)).size + t171.size ≤ 9223372036854775807 then (if a2 = true then (if 1 + ((t170 ++ (⟨#[112, 45]⟩ : ByteArray)) ++ t171).size ≤ 9223372036854775807 then ((real_Whole.f (Go.bits .or .u64 (Go.bits .or .u64 (IntKind.u64.wrap ((IntKind.u64.wrap (wrap64 ((wrap64 ((wrap64 ((-1) - (Go.bits .and .i64 a1 511))) + x9_1)) + 1023))) * 4503599627370496)) (Go.bits .and .u64 (shl .u64 (Go.bits .or .u64 (Go.bits .and .u64 a0 4503599627370495) 1) (IntKind.u64.wrap (wrap64 (52 - x9_1)))) 4503599627370495)) 9223372036854775808)).bind fun bt172 => ((real_Kind.f (Go.bits .or .u64 (Go.bits .or .u64 (IntKind.u64.wrap ((IntKind.u64.wrap (wrap64 ((wrap64 ((wrap64 ((-1) - (Go.bits .and .i64 a1 511))) + x9_1)) + 1023))) * 4503599627370496)) (Go.bits .and .u64 (shl .u64 (Go.bits .or .u64 (Go.bits .and .u64 a0 4503599627370495) 1) (IntKind.u64.wrap (wrap64 (52 - x9_1)))) 4503599627370495)) 9223372036854775808)).bind fun t174 => (if t174 = 4 then ((real_Text.f (Go.bits .or .u64 (Go.bits .or .u64 (IntKind.u64.wrap ((IntKind.u64.wrap (wrap64 ((wrap64 ((wrap64 ((-1) - (Go.bits .and .i64 a1 511))) + x9_1)) + 1023))) * 4503599627370496)) (Go.bits .and .u64 (shl .u64 (Go.bits .or .u64 (Go.bits .and .u64 a0 4503599627370495) 1) (IntKind.u64.wrap (wrap64 (52 - x9_1)))) 4503599627370495)) 9223372036854775808)).bind fun t175 => (if t175.toList = ((⟨#[45]⟩ : ByteArray) ++ ((t170 ++ (⟨#[112, 45]⟩ : ByteArray)) ++ t171)).toList then (some (!bt172.2)) else (some false))) else (some false)))) else (none)) else ((real_Whole.f (Go.bits .or .u64 (IntKind.u64.wrap ((IntKind.u64.wrap (wrap64 ((wrap64 ((wrap64 ((-1) - (Go.bits .and .i64 a1 511))) + x9_1)) + 1023))) * 4503599627370496)) (Go.bits .and .u64 (shl .u64 (Go.bits .or .u64 (Go.bits .and .u64 a0 4503599627370495) 1) (IntKind.u64.wrap (wrap64 (52 - x9_1)))) 4503599627370495))).bind fun bt176 => ((real_Kind.f (Go.bits .or .u64 (IntKind.u64.wrap ((IntKind.u64.wrap (wrap64 ((wrap64 ((wrap64 ((-1) - (Go.bits .and .i64 a1 511))) + x9_1)) + 1023))) * 4503599627370496)) (Go.bits .and .u64 (shl .u64 (Go.bits .or .u64 (Go.bits .and .u64 a0 4503599627370495) 1) (IntKind.u64.wrap (wrap64 (52 - x9_1)))) 4503599627370495))).bind fun t178 => (if t178 = 4 then ((real_Text.f (Go.bits .or .u64 (IntKind.u64.wrap ((IntKind.u64.wrap (wrap64 ((wrap64 ((wrap64 ((-1) - (Go.bits .and .i64 a1 511))) + x9_1)) + 1023))) * 4503599627370496)) (Go.bits .and .u64 (shl .u64 (Go.bits .or .u64 (Go.bits .and .u64 a0 4503599627370495) 1) (IntKind.u64.wrap (wrap64 (52 - x9_1)))) 4503599627370495))).bind fun t179 => (if t179.toList = ((t170 ++ (⟨#[112, 45]⟩ : ByteArray)) ++ t171).toList then (some (!bt176.2)) else (some false))) else (some false))))) else (none))) else (none))) else (none))) = some r := by first | (rw [hji9] at H; exact H) | (simp only [hji9] at H ⊢; exact H)
          have hji9_ : ((Go.bits .or .u64 (Go.bits .and .u64 a0 4503599627370495) 1) / 2 ^ min (ji7).toNat 64) = ji9 := hji9
          have hji9z : (ji7) ≤ 64 → ((Go.bits .or .u64 (Go.bits .and .u64 a0 4503599627370495) 1) / 2 ^ (ji7).toNat) = ji9 := shr_small hji9
          by_cases c10 : (ji9) = 0
          · rw [if_pos c10] at H
            have c10b0 : ((ji9) == 0) = true := beq_iff_eq.mpr c10
            have c10b1 : ((ji9) != 0) = false := bne_eq_false_iff_eq.mpr c10
            clear c10
            have H' := Aside0.mk H
            clear H
            go_wp2
            go_roundg k1
            case measure => have := HK1.out; omega
            case rel => exact ⟨(wrap64 (x9_1 - 1)), (by first | rfl | (simp; done) | (simp [*]; done)), H', ⟨by have := HK1.out; omega⟩, ⟨by repeat (first | (with_reducible first | exact HB.out | apply below_alloc | apply pw_below_drewN | apply below_drew1) | exact HB.out)⟩⟩
          · rw [if_neg c10] at H
            have c10b0 : ((ji9) == 0) = false := beq_eq_false_iff_ne.mpr c10
            have c10b1 : ((ji9) != 0) = true := bne_iff_ne.mpr c10
            obtain ⟨ji11, hji11⟩ : ∃ j_ : Int, (IntKind.u64.wrap (wrap64 (52 - x9_1))) = j_ := ⟨_, rfl⟩
            replace H : (if 0 ≤ (ji11) then ((stoleref0_Decimal.f k1 (wrap64 ((Go.bits .or .u64 (Go.bits .and .u64 a0 4503599627370495) 1)))).bind fun t170 => (if t170.size + 2 ≤ 9223372036854775807 then ((stoleref0_Decimal.f k1 (wrap64 (-(wrap64 ((-1) - (Go.bits .and .i64 a1 511)))))).bind fun t171 => (if (t170 ++ (⟨#[112, 45]⟩ : ByteArray)).size + t171.size ≤ 9223372036854775807 then (if a2 = true then (if 1 + ((t170 ++ (⟨#[112, 45]⟩ : ByteArray)) ++ t171).size ≤ 9223372036854775807 then ((real_Whole.f (Go.bits .or .u64 (Go.bits .or .u64 (IntKind.u64.wrap ((IntKind.u64.wrap (wrap64 ((wrap64 ((wrap64 ((-1) - (Go.bits .and .i64 a1 511))) + x9_1)) + 1023))) * 4503599627370496)) (Go.bits .and .u64 (shl .u64 (Go.bits .or .u64 (Go.bits .and .u64 a0 4503599627370495) 1) (ji11)) 4503599627370495)) 9223372036854775808)).bind fun bt172 => ((real_Kind.f (Go.bits .or .u64 (Go.bits .or .u64 (IntKind.u64.wrap ((IntKind.u64.wrap (wrap64 ((wrap64 ((wrap64 ((-1) - (Go.bits .and .i64 a1 511))) + x9_1)) + 1023))) * 4503599627370496)) (Go.bits .and .u64 (shl .u64 (Go.bits .or .u64 (Go.bits .and .u64 a0 4503599627370495) 1) (ji11)) 4503599627370495)) 9223372036854775808)).bind fun t174 => (if t174 = 4 then ((real_Text.f (Go.bits .or .u64 (Go.bits .or .u64 (IntKind.u64.wrap ((IntKind.u64.wrap (wrap64 ((wrap64 ((wrap64 ((-1) - (Go.bits .and .i64 a1 511))) + x9_1)) + 1023))) * 4503599627370496)) (Go.bits .and .u64 (shl .u64 (Go.bits .or .u64 (Go.bits .and .u64 a0 4503599627370495) 1) (ji11)) 4503599627370495)) 9223372036854775808)).bind fun t175 => (if t175.toList = ((⟨#[45]⟩ : ByteArray) ++ ((t170 ++ (⟨#[112, 45]⟩ : ByteArray)) ++ t171)).toList then (some (!bt172.2)) else (some false))) else (some false)))) else (none)) else ((real_Whole.f (Go.bits .or .u64 (IntKind.u64.wrap ((IntKind.u64.wrap (wrap64 ((wrap64 ((wrap64 ((-1) - (Go.bits .and .i64 a1 511))) + x9_1)) + 1023))) * 4503599627370496)) (Go.bits .and .u64 (shl .u64 (Go.bits .or .u64 (Go.bits .and .u64 a0 4503599627370495) 1) (ji11)) 4503599627370495))).bind fun bt176 => ((real_Kind.f (Go.bits .or .u64 (IntKind.u64.wrap ((IntKind.u64.wrap (wrap64 ((wrap64 ((wrap64 ((-1) - (Go.bits .and .i64 a1 511))) + x9_1)) + 1023))) * 4503599627370496)) (Go.bits .and .u64 (shl .u64 (Go.bits .or .u64 (Go.bits .and .u64 a0 4503599627370495) 1) (ji11)) 4503599627370495))).bind fun t178 => (if t178 = 4 then ((real_Text.f (Go.bits .or .u64 (IntKind.u64.wrap ((IntKind.u64.wrap (wrap64 ((wrap64 ((wrap64 ((-1) - (Go.bits .and .i64 a1 511))) + x9_1)) + 1023))) * 4503599627370496)) (Go.bits .and .u64 (shl .u64 (Go.bits .or .u64 (Go.bits .and .u64 a0 4503599627370495) 1) (ji11)) 4503599627370495))).bind fun t179 => (if t179.toList = ((t170 ++ (⟨#[112, 45]⟩ : ByteArray)) ++ t171).toList then (some (!bt176.2)) else (some false))) else (some false))))) else (none))) else (none))) else (none)) = some r := by first | (rw [hji11] at H; exact H) | (simp only [hji11] at H ⊢; exact H)
            by_cases c12 : 0 ≤ (ji11)
            · rw [if_pos c12] at H
              have c12b0 := eq_true c12
              have c12b1 : decide (0 ≤ (ji11)) = true := decide_eq_true c12
              clear c12
              obtain ⟨ji13, hji13⟩ : ∃ j_ : Int, (shl .u64 (Go.bits .or .u64 (Go.bits .and .u64 a0 4503599627370495) 1) (ji11)) = j_ := ⟨_, rfl⟩
              replace H : ((stoleref0_Decimal.f k1 (wrap64 ((Go.bits .or .u64 (Go.bits .and .u64 a0 4503599627370495) 1)))).bind fun t170 => (if t170.size + 2 ≤ 9223372036854775807 then ((stoleref0_Decimal.f k1 (wrap64 (-(wrap64 ((-1) - (Go.bits .and .i64 a1 511)))))).bind fun t171 => (if (t170 ++ (⟨#[112, 45]⟩ : ByteArray)).size + t171.size ≤ 9223372036854775807 then (if a2 = true then (if 1 + ((t170 ++ (⟨#[112, 45]⟩ : ByteArray)) ++ t171).size ≤ 9223372036854775807 then ((real_Whole.f (Go.bits .or .u64 (Go.bits .or .u64 (IntKind.u64.wrap ((IntKind.u64.wrap (wrap64 ((wrap64 ((wrap64 ((-1) - (Go.bits .and .i64 a1 511))) + x9_1)) + 1023))) * 4503599627370496)) (Go.bits .and .u64 (ji13) 4503599627370495)) 9223372036854775808)).bind fun bt172 => ((real_Kind.f (Go.bits .or .u64 (Go.bits .or .u64 (IntKind.u64.wrap ((IntKind.u64.wrap (wrap64 ((wrap64 ((wrap64 ((-1) - (Go.bits .and .i64 a1 511))) + x9_1)) + 1023))) * 4503599627370496)) (Go.bits .and .u64 (ji13) 4503599627370495)) 9223372036854775808)).bind fun t174 => (if t174 = 4 then ((real_Text.f (Go.bits .or .u64 (Go.bits .or .u64 (IntKind.u64.wrap ((IntKind.u64.wrap (wrap64 ((wrap64 ((wrap64 ((-1) - (Go.bits .and .i64 a1 511))) + x9_1)) + 1023))) * 4503599627370496)) (Go.bits .and .u64 (ji13) 4503599627370495)) 9223372036854775808)).bind fun t175 => (if t175.toList = ((⟨#[45]⟩ : ByteArray) ++ ((t170 ++ (⟨#[112, 45]⟩ : ByteArray)) ++ t171)).toList then (some (!bt172.2)) else (some false))) else (some false)))) else (none)) else ((real_Whole.f (Go.bits .or .u64 (IntKind.u64.wrap ((IntKind.u64.wrap (wrap64 ((wrap64 ((wrap64 ((-1) - (Go.bits .and .i64 a1 511))) + x9_1)) + 1023))) * 4503599627370496)) (Go.bits .and .u64 (ji13) 4503599627370495))).bind fun bt176 => ((real_Kind.f (Go.bits .or .u64 (IntKind.u64.wrap ((IntKind.u64.wrap (wrap64 ((wrap64 ((wrap64 ((-1) - (Go.bits .and .i64 a1 511))) + x9_1)) + 1023))) * 4503599627370496)) (Go.bits .and .u64 (ji13) 4503599627370495))).bind fun t178 => (if t178 = 4 then ((real_Text.f (Go.bits .or .u64 (IntKind.u64.wrap ((IntKind.u64.wrap (wrap64 ((wrap64 ((wrap64 ((-1) - (Go.bits .and .i64 a1 511))) + x9_1)) + 1023))) * 4503599627370496)) (Go.bits .and .u64 (ji13) 4503599627370495))).bind fun t179 => (if t179.toList = ((t170 ++ (⟨#[112, 45]⟩ : ByteArray)) ++ t171).toList then (some (!bt176.2)) else (some false))) else (some false))))) else (none))) else (none))) = some r := by first | (rw [hji13] at H; exact H) | (simp only [hji13] at H ⊢; exact H)
              have hji13_ : (IntKind.u64.wrap ((Go.bits .or .u64 (Go.bits .and .u64 a0 4503599627370495) 1) * 2 ^ min (ji11).toNat 64)) = ji13 := hji13
              have hji13z : (ji11) ≤ 64 → (IntKind.u64.wrap ((Go.bits .or .u64 (Go.bits .and .u64 a0 4503599627370495) 1) * 2 ^ (ji11).toNat)) = ji13 := shl_small hji13
              replace H := Option.bind_eq_some_iff.mp H
              obtain ⟨t170, A140, H⟩ := H
              replace H : (if t170.size + 2 ≤ 9223372036854775807 then ((stoleref0_Decimal.f k1 (wrap64 (-(wrap64 ((-1) - (Go.bits .and .i64 a1 511)))))).bind fun t171 => (if (t170 ++ (⟨#[112, 45]⟩ : ByteArray)).size + t171.size ≤ 9223372036854775807 then (if a2 = true then (if 1 + ((t170 ++ (⟨#[112, 45]⟩ : ByteArray)) ++ t171).size ≤ 9223372036854775807 then ((real_Whole.f (Go.bits .or .u64 (Go.bits .or .u64 (IntKind.u64.wrap ((IntKind.u64.wrap (wrap64 ((wrap64 ((wrap64 ((-1) - (Go.bits .and .i64 a1 511))) + x9_1)) + 1023))) * 4503599627370496)) (Go.bits .and .u64 (ji13) 4503599627370495)) 9223372036854775808)).bind fun bt172 => ((real_Kind.f (Go.bits .or .u64 (Go.bits .or .u64 (IntKind.u64.wrap ((IntKind.u64.wrap (wrap64 ((wrap64 ((wrap64 ((-1) - (Go.bits .and .i64 a1 511))) + x9_1)) + 1023))) * 4503599627370496)) (Go.bits .and .u64 (ji13) 4503599627370495)) 9223372036854775808)).bind fun t174 => (if t174 = 4 then ((real_Text.f (Go.bits .or .u64 (Go.bits .or .u64 (IntKind.u64.wrap ((IntKind.u64.wrap (wrap64 ((wrap64 ((wrap64 ((-1) - (Go.bits .and .i64 a1 511))) + x9_1)) + 1023))) * 4503599627370496)) (Go.bits .and .u64 (ji13) 4503599627370495)) 9223372036854775808)).bind fun t175 => (if t175.toList = ((⟨#[45]⟩ : ByteArray) ++ ((t170 ++ (⟨#[112, 45]⟩ : ByteArray)) ++ t171)).toList then (some (!bt172.2)) else (some false))) else (some false)))) else (none)) else ((real_Whole.f (Go.bits .or .u64 (IntKind.u64.wrap ((IntKind.u64.wrap (wrap64 ((wrap64 ((wrap64 ((-1) - (Go.bits .and .i64 a1 511))) + x9_1)) + 1023))) * 4503599627370496)) (Go.bits .and .u64 (ji13) 4503599627370495))).bind fun bt176 => ((real_Kind.f (Go.bits .or .u64 (IntKind.u64.wrap ((IntKind.u64.wrap (wrap64 ((wrap64 ((wrap64 ((-1) - (Go.bits .and .i64 a1 511))) + x9_1)) + 1023))) * 4503599627370496)) (Go.bits .and .u64 (ji13) 4503599627370495))).bind fun t178 => (if t178 = 4 then ((real_Text.f (Go.bits .or .u64 (IntKind.u64.wrap ((IntKind.u64.wrap (wrap64 ((wrap64 ((wrap64 ((-1) - (Go.bits .and .i64 a1 511))) + x9_1)) + 1023))) * 4503599627370496)) (Go.bits .and .u64 (ji13) 4503599627370495))).bind fun t179 => (if t179.toList = ((t170 ++ (⟨#[112, 45]⟩ : ByteArray)) ++ t171).toList then (some (!bt176.2)) else (some false))) else (some false))))) else (none))) else (none)) = some r := H
              have A14 := Aside0.mk A140
              clear A140
              by_cases c15 : t170.size + 2 ≤ 9223372036854775807
              · rw [if_pos c15] at H
                have c15b0 := eq_true c15
                have c15b1 : decide (t170.size + 2 ≤ 9223372036854775807) = true := decide_eq_true c15
                try have c15b2 : (9223372036854775807 < t170.size + 2) = False := eq_false (Nat.not_lt.2 c15)
                replace H := Option.bind_eq_some_iff.mp H
                obtain ⟨t171, A160, H⟩ := H
                replace H : (if (t170 ++ (⟨#[112, 45]⟩ : ByteArray)).size + t171.size ≤ 9223372036854775807 then (if a2 = true then (if 1 + ((t170 ++ (⟨#[112, 45]⟩ : ByteArray)) ++ t171).size ≤ 9223372036854775807 then ((real_Whole.f (Go.bits .or .u64 (Go.bits .or .u64 (IntKind.u64.wrap ((IntKind.u64.wrap (wrap64 ((wrap64 ((wrap64 ((-1) - (Go.bits .and .i64 a1 511))) + x9_1)) + 1023))) * 4503599627370496)) (Go.bits .and .u64 (ji13) 4503599627370495)) 9223372036854775808)).bind fun bt172 => ((real_Kind.f (Go.bits .or .u64 (Go.bits .or .u64 (IntKind.u64.wrap ((IntKind.u64.wrap (wrap64 ((wrap64 ((wrap64 ((-1) - (Go.bits .and .i64 a1 511))) + x9_1)) + 1023))) * 4503599627370496)) (Go.bits .and .u64 (ji13) 4503599627370495)) 9223372036854775808)).bind fun t174 => (if t174 = 4 then ((real_Text.f (Go.bits .or .u64 (Go.bits .or .u64 (IntKind.u64.wrap ((IntKind.u64.wrap (wrap64 ((wrap64 ((wrap64 ((-1) - (Go.bits .and .i64 a1 511))) + x9_1)) + 1023))) * 4503599627370496)) (Go.bits .and .u64 (ji13) 4503599627370495)) 9223372036854775808)).bind fun t175 => (if t175.toList = ((⟨#[45]⟩ : ByteArray) ++ ((t170 ++ (⟨#[112, 45]⟩ : ByteArray)) ++ t171)).toList then (some (!bt172.2)) else (some false))) else (some false)))) else (none)) else ((real_Whole.f (Go.bits .or .u64 (IntKind.u64.wrap ((IntKind.u64.wrap (wrap64 ((wrap64 ((wrap64 ((-1) - (Go.bits .and .i64 a1 511))) + x9_1)) + 1023))) * 4503599627370496)) (Go.bits .and .u64 (ji13) 4503599627370495))).bind fun bt176 => ((real_Kind.f (Go.bits .or .u64 (IntKind.u64.wrap ((IntKind.u64.wrap (wrap64 ((wrap64 ((wrap64 ((-1) - (Go.bits .and .i64 a1 511))) + x9_1)) + 1023))) * 4503599627370496)) (Go.bits .and .u64 (ji13) 4503599627370495))).bind fun t178 => (if t178 = 4 then ((real_Text.f (Go.bits .or .u64 (IntKind.u64.wrap ((IntKind.u64.wrap (wrap64 ((wrap64 ((wrap64 ((-1) - (Go.bits .and .i64 a1 511))) + x9_1)) + 1023))) * 4503599627370496)) (Go.bits .and .u64 (ji13) 4503599627370495))).bind fun t179 => (if t179.toList = ((t170 ++ (⟨#[112, 45]⟩ : ByteArray)) ++ t171).toList then (some (!bt176.2)) else (some false))) else (some false))))) else (none)) = some r := H
                have A16 := Aside0.mk A160
                clear A160
                by_cases c17 : (t170 ++ (⟨#[112, 45]⟩ : ByteArray)).size + t171.size ≤ 9223372036854775807
                · rw [if_pos c17] at H
                  have c17b0 := eq_true c17
                  have c17b1 : decide ((t170 ++ (⟨#[112, 45]⟩ : ByteArray)).size + t171.size ≤ 9223372036854775807) = true := decide_eq_true c17
                  try have c17b2 : (9223372036854775807 < (t170 ++ (⟨#[112, 45]⟩ : ByteArray)).size + t171.size) = False := eq_false (Nat.not_lt.2 c17)
                  try have c17b3 : (9223372036854775807 < t170.size + 2 + t171.size) = False := eq_false (by have h_ := c17; simp only [ByteArray.size_append, Own.lit_size, List.size_toArray, List.length_cons, List.length_nil] at h_; omega)
                  try have c17b4 : decide (t170.size + 2 + t171.size ≤ 9223372036854775807) = true := decide_eq_true (by have h_ := c17; simp only [ByteArray.size_append, Own.lit_size, List.size_toArray, List.length_cons, List.length_nil] at h_; omega)
                  by_cases c18 : a2 = true
                  · subst c18
                    have H1 : (if 1 + ((t170 ++ (⟨#[112, 45]⟩ : ByteArray)) ++ t171).size ≤ 9223372036854775807 then ((real_Whole.f (Go.bits .or .u64 (Go.bits .or .u64 (IntKind.u64.wrap ((IntKind.u64.wrap (wrap64 ((wrap64 ((wrap64 ((-1) - (Go.bits .and .i64 a1 511))) + x9_1)) + 1023))) * 4503599627370496)) (Go.bits .and .u64 (ji13) 4503599627370495)) 9223372036854775808)).bind fun bt172 => ((real_Kind.f (Go.bits .or .u64 (Go.bits .or .u64 (IntKind.u64.wrap ((IntKind.u64.wrap (wrap64 ((wrap64 ((wrap64 ((-1) - (Go.bits .and .i64 a1 511))) + x9_1)) + 1023))) * 4503599627370496)) (Go.bits .and .u64 (ji13) 4503599627370495)) 9223372036854775808)).bind fun t174 => (if t174 = 4 then ((real_Text.f (Go.bits .or .u64 (Go.bits .or .u64 (IntKind.u64.wrap ((IntKind.u64.wrap (wrap64 ((wrap64 ((wrap64 ((-1) - (Go.bits .and .i64 a1 511))) + x9_1)) + 1023))) * 4503599627370496)) (Go.bits .and .u64 (ji13) 4503599627370495)) 9223372036854775808)).bind fun t175 => (if t175.toList = ((⟨#[45]⟩ : ByteArray) ++ ((t170 ++ (⟨#[112, 45]⟩ : ByteArray)) ++ t171)).toList then (some (!bt172.2)) else (some false))) else (some false)))) else (none)) = some r := by rw [if_pos rfl] at H; exact H
                    clear H
                    have H := H1
                    clear H1
                    by_cases c19 : 1 + ((t170 ++ (⟨#[112, 45]⟩ : ByteArray)) ++ t171).size ≤ 9223372036854775807
                    · rw [if_pos c19] at H
                      have c19b0 := eq_true c19
                      have c19b1 : decide (1 + ((t170 ++ (⟨#[112, 45]⟩ : ByteArray)) ++ t171).size ≤ 9223372036854775807) = true := decide_eq_true c19
                      try have c19b2 : (9223372036854775807 < 1 + ((t170 ++ (⟨#[112, 45]⟩ : ByteArray)) ++ t171).size) = False := eq_false (Nat.not_lt.2 c19)
                      try have c19b3 : (9223372036854775807 < 1 + (t170.size + 2 + t171.size)) = False := eq_false (by have h_ := c19; simp only [ByteArray.size_append, Own.lit_size, List.size_toArray, List.length_cons, List.length_nil] at h_; omega)
                      try have c19b4 : decide (1 + (t170.size + 2 + t171.size) ≤ 9223372036854775807) = true := decide_eq_true (by have h_ := c19; simp only [ByteArray.size_append, Own.lit_size, List.size_toArray, List.length_cons, List.length_nil] at h_; omega)
                      replace H := Option.bind_eq_some_iff.mp H
                      obtain ⟨⟨t172, t173⟩, A200, H⟩ := H
                      replace H : ((real_Kind.f (Go.bits .or .u64 (Go.bits .or .u64 (IntKind.u64.wrap ((IntKind.u64.wrap (wrap64 ((wrap64 ((wrap64 ((-1) - (Go.bits .and .i64 a1 511))) + x9_1)) + 1023))) * 4503599627370496)) (Go.bits .and .u64 (ji13) 4503599627370495)) 9223372036854775808)).bind fun t174 => (if t174 = 4 then ((real_Text.f (Go.bits .or .u64 (Go.bits .or .u64 (IntKind.u64.wrap ((IntKind.u64.wrap (wrap64 ((wrap64 ((wrap64 ((-1) - (Go.bits .and .i64 a1 511))) + x9_1)) + 1023))) * 4503599627370496)) (Go.bits .and .u64 (ji13) 4503599627370495)) 9223372036854775808)).bind fun t175 => (if t175.toList = ((⟨#[45]⟩ : ByteArray) ++ ((t170 ++ (⟨#[112, 45]⟩ : ByteArray)) ++ t171)).toList then (some (!t173)) else (some false))) else (some false))) = some r := H
                      have A20 := Aside0.mk A200
                      clear A200
                      replace H := Option.bind_eq_some_iff.mp H
                      obtain ⟨t174, A210, H⟩ := H
                      replace H : (if t174 = 4 then ((real_Text.f (Go.bits .or .u64 (Go.bits .or .u64 (IntKind.u64.wrap ((IntKind.u64.wrap (wrap64 ((wrap64 ((wrap64 ((-1) - (Go.bits .and .i64 a1 511))) + x9_1)) + 1023))) * 4503599627370496)) (Go.bits .and .u64 (ji13) 4503599627370495)) 9223372036854775808)).bind fun t175 => (if t175.toList = ((⟨#[45]⟩ : ByteArray) ++ ((t170 ++ (⟨#[112, 45]⟩ : ByteArray)) ++ t171)).toList then (some (!t173)) else (some false))) else (some false)) = some r := H
                      have A21 := Aside0.mk A210
                      clear A210
                      by_cases c22 : t174 = 4
                      · rw [if_pos c22] at H
                        have c22b0 : (t174 == 4) = true := beq_iff_eq.mpr c22
                        have c22b1 : (t174 != 4) = false := bne_eq_false_iff_eq.mpr c22
                        clear c22
                        replace H := Option.bind_eq_some_iff.mp H
                        obtain ⟨t175, A230, H⟩ := H
                        replace H : (if t175.toList = ((⟨#[45]⟩ : ByteArray) ++ ((t170 ++ (⟨#[112, 45]⟩ : ByteArray)) ++ t171)).toList then (some (!t173)) else (some false)) = some r := H
                        have A23 := Aside0.mk A230
                        clear A230
                        by_cases c24 : t175.toList = ((⟨#[45]⟩ : ByteArray) ++ ((t170 ++ (⟨#[112, 45]⟩ : ByteArray)) ++ t171)).toList
                        · rw [if_pos c24] at H
                          have c24b0 : (t175.toList == ((⟨#[45]⟩ : ByteArray) ++ ((t170 ++ (⟨#[112, 45]⟩ : ByteArray)) ++ t171)).toList) = true := beq_iff_eq.mpr c24
                          have c24b1 : (t175.toList != ((⟨#[45]⟩ : ByteArray) ++ ((t170 ++ (⟨#[112, 45]⟩ : ByteArray)) ++ t171)).toList) = false := bne_eq_false_iff_eq.mpr c24
                          clear c24
                          obtain rfl := Option.some.inj H
                          go_wp2_with (first | ((with_reducible refine gate_callee (f := 15) rfl ?_); refine goesL_ (some 44) rfl rfl Tryd.func15 (by kernel_rfl) rfl #[.int .i64 (wrap64 ((Go.bits .or .u64 (Go.bits .and .u64 a0 4503599627370495) 1)))] rfl (by (try simp only [List.map_toArray, List.map_cons, List.map_nil]); first | done | rfl | (simp only [List.length_drop, List.length_take]; rfl)) ?_; (with_reducible refine (stoleref0_Decimal.calls k1 (wrap64 ((Go.bits .or .u64 (Go.bits .and .u64 a0 4503599627370495) 1))) t170 _ A14.out).mono ?_); rintro e w25 ⟨rfl, hb⟩; refine ⟨_, rfl, ?_⟩; have n0_ := Aside0.mk (below_step (by repeat (first | (with_reducible first | exact HB.out | apply below_alloc | apply pw_below_drewN | apply below_drew1) | exact HB.out)) hb); clear HB; have HB := n0_; clear n0_; (try clear hb); (try clear hb2); (try clear hk); (try clear hi)) | ((with_reducible refine gate_callee (f := 15) rfl ?_); refine goesL_ (some 48) rfl rfl Tryd.func15 (by kernel_rfl) rfl #[.int .i64 (wrap64 (-(wrap64 ((-1) - (Go.bits .and .i64 a1 511)))))] rfl (by (try simp only [List.map_toArray, List.map_cons, List.map_nil]); first | done | rfl | (simp only [List.length_drop, List.length_take]; rfl)) ?_; (with_reducible refine (stoleref0_Decimal.calls k1 (wrap64 (-(wrap64 ((-1) - (Go.bits .and .i64 a1 511))))) t171 _ A16.out).mono ?_); rintro e w26 ⟨rfl, hb⟩; refine ⟨_, rfl, ?_⟩; have n0_ := Aside0.mk (below_step (by repeat (first | (with_reducible first | exact HB.out | apply below_alloc | apply pw_below_drewN | apply below_drew1) | exact HB.out)) hb); clear HB; have HB := n0_; clear n0_; (try clear hb); (try clear hb2); (try clear hk); (try clear hi)) | ((with_reducible refine gate_callee (f := 8) rfl ?_); refine goesL_ (some 57) rfl rfl Tryd.func8 (by kernel_rfl) rfl #[.int .u64 (Go.bits .or .u64 (Go.bits .or .u64 (IntKind.u64.wrap ((IntKind.u64.wrap (wrap64 ((wrap64 ((wrap64 ((-1) - (Go.bits .and .i64 a1 511))) + x9_1)) + 1023))) * 4503599627370496)) (Go.bits .and .u64 (ji13) 4503599627370495)) 9223372036854775808)] rfl (by (try simp only [List.map_toArray, List.map_cons, List.map_nil]); first | done | (simp only [hji13]; rfl) | rfl | (simp only [List.length_drop, List.length_take]; rfl)) ?_; (with_reducible refine (real_Whole.calls (Go.bits .or .u64 (Go.bits .or .u64 (IntKind.u64.wrap ((IntKind.u64.wrap (wrap64 ((wrap64 ((wrap64 ((-1) - (Go.bits .and .i64 a1 511))) + x9_1)) + 1023))) * 4503599627370496)) (Go.bits .and .u64 (ji13) 4503599627370495)) 9223372036854775808) t172 t173 _ A20.out).mono ?_); rintro e w' ⟨rfl, ⟨nd, rfl⟩⟩; refine ⟨_, rfl, ?_⟩) | ((with_reducible refine gate_callee (f := 10) rfl ?_); refine goesL_ (some 61) rfl rfl Tryd.func10 (by kernel_rfl) rfl #[.int .u64 (Go.bits .or .u64 (Go.bits .or .u64 (IntKind.u64.wrap ((IntKind.u64.wrap (wrap64 ((wrap64 ((wrap64 ((-1) - (Go.bits .and .i64 a1 511))) + x9_1)) + 1023))) * 4503599627370496)) (Go.bits .and .u64 (ji13) 4503599627370495)) 9223372036854775808)] rfl (by (try simp only [List.map_toArray, List.map_cons, List.map_nil]); first | done | (simp only [hji13]; rfl) | rfl | (simp only [List.length_drop, List.length_take]; rfl)) ?_; (with_reducible refine (real_Kind.calls (Go.bits .or .u64 (Go.bits .or .u64 (IntKind.u64.wrap ((IntKind.u64.wrap (wrap64 ((wrap64 ((wrap64 ((-1) - (Go.bits .and .i64 a1 511))) + x9_1)) + 1023))) * 4503599627370496)) (Go.bits .and .u64 (ji13) 4503599627370495)) 9223372036854775808) t174 _ A21.out).mono ?_); rintro e w' ⟨rfl, ⟨nd, rfl⟩⟩; refine ⟨_, rfl, ?_⟩) | (go_at_call 12; (with_reducible refine (real_Text.calls (Go.bits .or .u64 (Go.bits .or .u64 (IntKind.u64.wrap ((IntKind.u64.wrap (wrap64 ((wrap64 ((wrap64 ((-1) - (Go.bits .and .i64 a1 511))) + x9_1)) + 1023))) * 4503599627370496)) (Go.bits .and .u64 (ji13) 4503599627370495)) 9223372036854775808) t175 _ (Tabs.below HT.out (by repeat (first | (with_reducible first | exact HB.out | apply below_alloc | apply pw_below_drewN | apply below_drew1) | exact HB.out))) A23.out).mono ?_); rintro e w27 ⟨rfl, hb⟩; have n0_ := Aside0.mk (below_step (by repeat (first | (with_reducible first | exact HB.out | apply below_alloc | apply pw_below_drewN | apply below_drew1) | exact HB.out)) hb); clear HB; have HB := n0_; clear n0_; (try clear hb); (try clear hb2); (try clear hk); (try clear hi)))
                          go_ret
                          exact ⟨by first | rfl | (simp [errW_none, errW_some] <;> rfl) | (simp only [← hji7, ← hji9, ← hji11, ← hji13]; first | rfl | (simp [errW_none, errW_some] <;> rfl)) | (simp [*, errW_none, errW_some] <;> rfl), by repeat (first | (with_reducible first | exact HB.out | apply below_alloc | apply pw_below_drewN | apply below_drew1) | exact HB.out)⟩
                        · rw [if_neg c24] at H
                          have c24b0 : (t175.toList == ((⟨#[45]⟩ : ByteArray) ++ ((t170 ++ (⟨#[112, 45]⟩ : ByteArray)) ++ t171)).toList) = false := beq_eq_false_iff_ne.mpr c24
                          have c24b1 : (t175.toList != ((⟨#[45]⟩ : ByteArray) ++ ((t170 ++ (⟨#[112, 45]⟩ : ByteArray)) ++ t171)).toList) = true := bne_iff_ne.mpr c24
                          obtain rfl := Option.some.inj H
                          go_wp2_with (first | ((with_reducible refine gate_callee (f := 15) rfl ?_); refine goesL_ (some 44) rfl rfl Tryd.func15 (by kernel_rfl) rfl #[.int .i64 (wrap64 ((Go.bits .or .u64 (Go.bits .and .u64 a0 4503599627370495) 1)))] rfl (by (try simp only [List.map_toArray, List.map_cons, List.map_nil]); first | done | rfl | (simp only [List.length_drop, List.length_take]; rfl)) ?_; (with_reducible refine (stoleref0_Decimal.calls k1 (wrap64 ((Go.bits .or .u64 (Go.bits .and .u64 a0 4503599627370495) 1))) t170 _ A14.out).mono ?_); rintro e w28 ⟨rfl, hb⟩; refine ⟨_, rfl, ?_⟩; have n0_ := Aside0.mk (below_step (by repeat (first | (with_reducible first | exact HB.out | apply below_alloc | apply pw_below_drewN | apply below_drew1) | exact HB.out)) hb); clear HB; have HB := n0_; clear n0_; (try clear hb); (try clear hb2); (try clear hk); (try clear hi)) | ((with_reducible refine gate_callee (f := 15) rfl ?_); refine goesL_ (some 48) rfl rfl Tryd.func15 (by kernel_rfl) rfl #[.int .i64 (wrap64 (-(wrap64 ((-1) - (Go.bits .and .i64 a1 511)))))] rfl (by (try simp only [List.map_toArray, List.map_cons, List.map_nil]); first | done | rfl | (simp only [List.length_drop, List.length_take]; rfl)) ?_; (with_reducible refine (stoleref0_Decimal.calls k1 (wrap64 (-(wrap64 ((-1) - (Go.bits .and .i64 a1 511))))) t171 _ A16.out).mono ?_); rintro e w29 ⟨rfl, hb⟩; refine ⟨_, rfl, ?_⟩; have n0_ := Aside0.mk (below_step (by repeat (first | (with_reducible first | exact HB.out | apply below_alloc | apply pw_below_drewN | apply below_drew1) | exact HB.out)) hb); clear HB; have HB := n0_; clear n0_; (try clear hb); (try clear hb2); (try clear hk); (try clear hi)) | ((with_reducible refine gate_callee (f := 8) rfl ?_); refine goesL_ (some 57) rfl rfl Tryd.func8 (by kernel_rfl) rfl #[.int .u64 (Go.bits .or .u64 (Go.bits .or .u64 (IntKind.u64.wrap ((IntKind.u64.wrap (wrap64 ((wrap64 ((wrap64 ((-1) - (Go.bits .and .i64 a1 511))) + x9_1)) + 1023))) * 4503599627370496)) (Go.bits .and .u64 (ji13) 4503599627370495)) 9223372036854775808)] rfl (by (try simp only [List.map_toArray, List.map_cons, List.map_nil]); first | done | (simp only [hji13]; rfl) | rfl | (simp only [List.length_drop, List.length_take]; rfl)) ?_; (with_reducible refine (real_Whole.calls (Go.bits .or .u64 (Go.bits .or .u64 (IntKind.u64.wrap ((IntKind.u64.wrap (wrap64 ((wrap64 ((wrap64 ((-1) - (Go.bits .and .i64 a1 511))) + x9_1)) + 1023))) * 4503599627370496)) (Go.bits .and .u64 (ji13) 4503599627370495)) 9223372036854775808) t172 t173 _ A20.out).mono ?_); rintro e w' ⟨rfl, ⟨nd, rfl⟩⟩; refine ⟨_, rfl, ?_⟩) | ((with_reducible refine gate_callee (f := 10) rfl ?_); refine goesL_ (some 61) rfl rfl Tryd.func10 (by kernel_rfl) rfl #[.int .u64 (Go.bits .or .u64 (Go.bits .or .u64 (IntKind.u64.wrap ((IntKind.u64.wrap (wrap64 ((wrap64 ((wrap64 ((-1) - (Go.bits .and .i64 a1 511))) + x9_1)) + 1023))) * 4503599627370496)) (Go.bits .and .u64 (ji13) 4503599627370495)) 9223372036854775808)] rfl (by (try simp only [List.map_toArray, List.map_cons, List.map_nil]); first | done | (simp only [hji13]; rfl) | rfl | (simp only [List.length_drop, List.length_take]; rfl)) ?_; (with_reducible refine (real_Kind.calls (Go.bits .or .u64 (Go.bits .or .u64 (IntKind.u64.wrap ((IntKind.u64.wrap (wrap64 ((wrap64 ((wrap64 ((-1) - (Go.bits .and .i64 a1 511))) + x9_1)) + 1023))) * 4503599627370496)) (Go.bits .and .u64 (ji13) 4503599627370495)) 9223372036854775808) t174 _ A21.out).mono ?_); rintro e w' ⟨rfl, ⟨nd, rfl⟩⟩; refine ⟨_, rfl, ?_⟩) | (go_at_call 12; (with_reducible refine (real_Text.calls (Go.bits .or .u64 (Go.bits .or .u64 (IntKind.u64.wrap ((IntKind.u64.wrap (wrap64 ((wrap64 ((wrap64 ((-1) - (Go.bits .and .i64 a1 511))) + x9_1)) + 1023))) * 4503599627370496)) (Go.bits .and .u64 (ji13) 4503599627370495)) 9223372036854775808) t175 _ (Tabs.below HT.out (by repeat (first | (with_reducible first | exact HB.out | apply below_alloc | apply pw_below_drewN | apply below_drew1) | exact HB.out))) A23.out).mono ?_); rintro e w30 ⟨rfl, hb⟩; have n0_ := Aside0.mk (below_step (by repeat (first | (with_reducible first | exact HB.out | apply below_alloc | apply pw_below_drewN | apply below_drew1) | exact HB.out)) hb); clear HB; have HB := n0_; clear n0_; (try clear hb); (try clear hb2); (try clear hk); (try clear hi)))
                          go_ret
                          exact ⟨by first | rfl | (simp [errW_none, errW_some] <;> rfl) | (simp only [← hji7, ← hji9, ← hji11, ← hji13]; first | rfl | (simp [errW_none, errW_some] <;> rfl)) | (simp [*, errW_none, errW_some] <;> rfl), by repeat (first | (with_reducible first | exact HB.out | apply below_alloc | apply pw_below_drewN | apply below_drew1) | exact HB.out)⟩
                      · rw [if_neg c22] at H
                        have c22b0 : (t174 == 4) = false := beq_eq_false_iff_ne.mpr c22
                        have c22b1 : (t174 != 4) = true := bne_iff_ne.mpr c22
                        obtain rfl := Option.some.inj H
                        go_wp2_with (first | ((with_reducible refine gate_callee (f := 15) rfl ?_); refine goesL_ (some 44) rfl rfl Tryd.func15 (by kernel_rfl) rfl #[.int .i64 (wrap64 ((Go.bits .or .u64 (Go.bits .and .u64 a0 4503599627370495) 1)))] rfl (by (try simp only [List.map_toArray, List.map_cons, List.map_nil]); first | done | rfl | (simp only [List.length_drop, List.length_take]; rfl)) ?_; (with_reducible refine (stoleref0_Decimal.calls k1 (wrap64 ((Go.bits .or .u64 (Go.bits .and .u64 a0 4503599627370495) 1))) t170 _ A14.out).mono ?_); rintro e w31 ⟨rfl, hb⟩; refine ⟨_, rfl, ?_⟩; have n0_ := Aside0.mk (below_step (by repeat (first | (with_reducible first | exact HB.out | apply below_alloc | apply pw_below_drewN | apply below_drew1) | exact HB.out)) hb); clear HB; have HB := n0_; clear n0_; (try clear hb); (try clear hb2); (try clear hk); (try clear hi)) | ((with_reducible refine gate_callee (f := 15) rfl ?_); refine goesL_ (some 48) rfl rfl Tryd.func15 (by kernel_rfl) rfl #[.int .i64 (wrap64 (-(wrap64 ((-1) - (Go.bits .and .i64 a1 511)))))] rfl (by (try simp only [List.map_toArray, List.map_cons, List.map_nil]); first | done | rfl | (simp only [List.length_drop, List.length_take]; rfl)) ?_; (with_reducible refine (stoleref0_Decimal.calls k1 (wrap64 (-(wrap64 ((-1) - (Go.bits .and .i64 a1 511))))) t171 _ A16.out).mono ?_); rintro e w32 ⟨rfl, hb⟩; refine ⟨_, rfl, ?_⟩; have n0_ := Aside0.mk (below_step (by repeat (first | (with_reducible first | exact HB.out | apply below_alloc | apply pw_below_drewN | apply below_drew1) | exact HB.out)) hb); clear HB; have HB := n0_; clear n0_; (try clear hb); (try clear hb2); (try clear hk); (try clear hi)) | ((with_reducible refine gate_callee (f := 8) rfl ?_); refine goesL_ (some 57) rfl rfl Tryd.func8 (by kernel_rfl) rfl #[.int .u64 (Go.bits .or .u64 (Go.bits .or .u64 (IntKind.u64.wrap ((IntKind.u64.wrap (wrap64 ((wrap64 ((wrap64 ((-1) - (Go.bits .and .i64 a1 511))) + x9_1)) + 1023))) * 4503599627370496)) (Go.bits .and .u64 (ji13) 4503599627370495)) 9223372036854775808)] rfl (by (try simp only [List.map_toArray, List.map_cons, List.map_nil]); first | done | (simp only [hji13]; rfl) | rfl | (simp only [List.length_drop, List.length_take]; rfl)) ?_; (with_reducible refine (real_Whole.calls (Go.bits .or .u64 (Go.bits .or .u64 (IntKind.u64.wrap ((IntKind.u64.wrap (wrap64 ((wrap64 ((wrap64 ((-1) - (Go.bits .and .i64 a1 511))) + x9_1)) + 1023))) * 4503599627370496)) (Go.bits .and .u64 (ji13) 4503599627370495)) 9223372036854775808) t172 t173 _ A20.out).mono ?_); rintro e w' ⟨rfl, ⟨nd, rfl⟩⟩; refine ⟨_, rfl, ?_⟩) | ((with_reducible refine gate_callee (f := 10) rfl ?_); refine goesL_ (some 61) rfl rfl Tryd.func10 (by kernel_rfl) rfl #[.int .u64 (Go.bits .or .u64 (Go.bits .or .u64 (IntKind.u64.wrap ((IntKind.u64.wrap (wrap64 ((wrap64 ((wrap64 ((-1) - (Go.bits .and .i64 a1 511))) + x9_1)) + 1023))) * 4503599627370496)) (Go.bits .and .u64 (ji13) 4503599627370495)) 9223372036854775808)] rfl (by (try simp only [List.map_toArray, List.map_cons, List.map_nil]); first | done | (simp only [hji13]; rfl) | rfl | (simp only [List.length_drop, List.length_take]; rfl)) ?_; (with_reducible refine (real_Kind.calls (Go.bits .or .u64 (Go.bits .or .u64 (IntKind.u64.wrap ((IntKind.u64.wrap (wrap64 ((wrap64 ((wrap64 ((-1) - (Go.bits .and .i64 a1 511))) + x9_1)) + 1023))) * 4503599627370496)) (Go.bits .and .u64 (ji13) 4503599627370495)) 9223372036854775808) t174 _ A21.out).mono ?_); rintro e w' ⟨rfl, ⟨nd, rfl⟩⟩; refine ⟨_, rfl, ?_⟩))
                        go_ret
                        exact ⟨by first | rfl | (simp [errW_none, errW_some] <;> rfl) | (simp only [← hji7, ← hji9, ← hji11, ← hji13]; first | rfl | (simp [errW_none, errW_some] <;> rfl)) | (simp [*, errW_none, errW_some] <;> rfl), by repeat (first | (with_reducible first | exact HB.out | apply below_alloc | apply pw_below_drewN | apply below_drew1) | exact HB.out)⟩
                    · rw [if_neg c19] at H
                      exact absurd H (by simp)
                  · replace c18 := Bool.eq_false_iff.mpr c18
                    subst c18
                    have H1 : ((real_Whole.f (Go.bits .or .u64 (IntKind.u64.wrap ((IntKind.u64.wrap (wrap64 ((wrap64 ((wrap64 ((-1) - (Go.bits .and .i64 a1 511))) + x9_1)) + 1023))) * 4503599627370496)) (Go.bits .and .u64 (ji13) 4503599627370495))).bind fun bt176 => ((real_Kind.f (Go.bits .or .u64 (IntKind.u64.wrap ((IntKind.u64.wrap (wrap64 ((wrap64 ((wrap64 ((-1) - (Go.bits .and .i64 a1 511))) + x9_1)) + 1023))) * 4503599627370496)) (Go.bits .and .u64 (ji13) 4503599627370495))).bind fun t178 => (if t178 = 4 then ((real_Text.f (Go.bits .or .u64 (IntKind.u64.wrap ((IntKind.u64.wrap (wrap64 ((wrap64 ((wrap64 ((-1) - (Go.bits .and .i64 a1 511))) + x9_1)) + 1023))) * 4503599627370496)) (Go.bits .and .u64 (ji13) 4503599627370495))).bind fun t179 => (if t179.toList = ((t170 ++ (⟨#[112, 45]⟩ : ByteArray)) ++ t171).toList then (some (!bt176.2)) else (some false))) else (some false)))) = some r := by rw [if_neg (show ¬ (false = true) by decide)] at H; exact H
                    clear H
                    have H := H1
                    clear H1
                    replace H := Option.bind_eq_some_iff.mp H
                    obtain ⟨⟨t176, t177⟩, A330, H⟩ := H
                    replace H : ((real_Kind.f (Go.bits .or .u64 (IntKind.u64.wrap ((IntKind.u64.wrap (wrap64 ((wrap64 ((wrap64 ((-1) - (Go.bits .and .i64 a1 511))) + x9_1)) + 1023))) * 4503599627370496)) (Go.bits .and .u64 (ji13) 4503599627370495))).bind fun t178 => (if t178 = 4 then ((real_Text.f (Go.bits .or .u64 (IntKind.u64.wrap ((IntKind.u64.wrap (wrap64 ((wrap64 ((wrap64 ((-1) - (Go.bits .and .i64 a1 511))) + x9_1)) + 1023))) * 4503599627370496)) (Go.bits .and .u64 (ji13) 4503599627370495))).bind fun t179 => (if t179.toList = ((t170 ++ (⟨#[112, 45]⟩ : ByteArray)) ++ t171).toList then (some (!t177)) else (some false))) else (some false))) = some r := H
                    have A33 := Aside0.mk A330
                    clear A330
                    replace H := Option.bind_eq_some_iff.mp H
                    obtain ⟨t178, A340, H⟩ := H
                    replace H : (if t178 = 4 then ((real_Text.f (Go.bits .or .u64 (IntKind.u64.wrap ((IntKind.u64.wrap (wrap64 ((wrap64 ((wrap64 ((-1) - (Go.bits .and .i64 a1 511))) + x9_1)) + 1023))) * 4503599627370496)) (Go.bits .and .u64 (ji13) 4503599627370495))).bind fun t179 => (if t179.toList = ((t170 ++ (⟨#[112, 45]⟩ : ByteArray)) ++ t171).toList then (some (!t177)) else (some false))) else (some false)) = some r := H
                    have A34 := Aside0.mk A340
                    clear A340
                    by_cases c35 : t178 = 4
                    · rw [if_pos c35] at H
                      have c35b0 : (t178 == 4) = true := beq_iff_eq.mpr c35
                      have c35b1 : (t178 != 4) = false := bne_eq_false_iff_eq.mpr c35
                      clear c35
                      replace H := Option.bind_eq_some_iff.mp H
                      obtain ⟨t179, A360, H⟩ := H
                      replace H : (if t179.toList = ((t170 ++ (⟨#[112, 45]⟩ : ByteArray)) ++ t171).toList then (some (!t177)) else (some false)) = some r := H
                      have A36 := Aside0.mk A360
                      clear A360
                      by_cases c37 : t179.toList = ((t170 ++ (⟨#[112, 45]⟩ : ByteArray)) ++ t171).toList
                      · rw [if_pos c37] at H
                        have c37b0 : (t179.toList == ((t170 ++ (⟨#[112, 45]⟩ : ByteArray)) ++ t171).toList) = true := beq_iff_eq.mpr c37
                        have c37b1 : (t179.toList != ((t170 ++ (⟨#[112, 45]⟩ : ByteArray)) ++ t171).toList) = false := bne_eq_false_iff_eq.mpr c37
                        clear c37
                        obtain rfl := Option.some.inj H
                        go_wp2_with (first | ((with_reducible refine gate_callee (f := 15) rfl ?_); refine goesL_ (some 44) rfl rfl Tryd.func15 (by kernel_rfl) rfl #[.int .i64 (wrap64 ((Go.bits .or .u64 (Go.bits .and .u64 a0 4503599627370495) 1)))] rfl (by (try simp only [List.map_toArray, List.map_cons, List.map_nil]); first | done | rfl | (simp only [List.length_drop, List.length_take]; rfl)) ?_; (with_reducible refine (stoleref0_Decimal.calls k1 (wrap64 ((Go.bits .or .u64 (Go.bits .and .u64 a0 4503599627370495) 1))) t170 _ A14.out).mono ?_); rintro e w38 ⟨rfl, hb⟩; refine ⟨_, rfl, ?_⟩; have n0_ := Aside0.mk (below_step (by repeat (first | (with_reducible first | exact HB.out | apply below_alloc | apply pw_below_drewN | apply below_drew1) | exact HB.out)) hb); clear HB; have HB := n0_; clear n0_; (try clear hb); (try clear hb2); (try clear hk); (try clear hi)) | ((with_reducible refine gate_callee (f := 15) rfl ?_); refine goesL_ (some 48) rfl rfl Tryd.func15 (by kernel_rfl) rfl #[.int .i64 (wrap64 (-(wrap64 ((-1) - (Go.bits .and .i64 a1 511)))))] rfl (by (try simp only [List.map_toArray, List.map_cons, List.map_nil]); first | done | rfl | (simp only [List.length_drop, List.length_take]; rfl)) ?_; (with_reducible refine (stoleref0_Decimal.calls k1 (wrap64 (-(wrap64 ((-1) - (Go.bits .and .i64 a1 511))))) t171 _ A16.out).mono ?_); rintro e w39 ⟨rfl, hb⟩; refine ⟨_, rfl, ?_⟩; have n0_ := Aside0.mk (below_step (by repeat (first | (with_reducible first | exact HB.out | apply below_alloc | apply pw_below_drewN | apply below_drew1) | exact HB.out)) hb); clear HB; have HB := n0_; clear n0_; (try clear hb); (try clear hb2); (try clear hk); (try clear hi)) | ((with_reducible refine gate_callee (f := 8) rfl ?_); refine goesL_ (some 57) rfl rfl Tryd.func8 (by kernel_rfl) rfl #[.int .u64 (Go.bits .or .u64 (IntKind.u64.wrap ((IntKind.u64.wrap (wrap64 ((wrap64 ((wrap64 ((-1) - (Go.bits .and .i64 a1 511))) + x9_1)) + 1023))) * 4503599627370496)) (Go.bits .and .u64 (ji13) 4503599627370495))] rfl (by (try simp only [List.map_toArray, List.map_cons, List.map_nil]); first | done | (simp only [hji13]; rfl) | rfl | (simp only [List.length_drop, List.length_take]; rfl)) ?_; (with_reducible refine (real_Whole.calls (Go.bits .or .u64 (IntKind.u64.wrap ((IntKind.u64.wrap (wrap64 ((wrap64 ((wrap64 ((-1) - (Go.bits .and .i64 a1 511))) + x9_1)) + 1023))) * 4503599627370496)) (Go.bits .and .u64 (ji13) 4503599627370495)) t176 t177 _ A33.out).mono ?_); rintro e w' ⟨rfl, ⟨nd, rfl⟩⟩; refine ⟨_, rfl, ?_⟩) | ((with_reducible refine gate_callee (f := 10) rfl ?_); refine goesL_ (some 61) rfl rfl Tryd.func10 (by kernel_rfl) rfl #[.int .u64 (Go.bits .or .u64 (IntKind.u64.wrap ((IntKind.u64.wrap (wrap64 ((wrap64 ((wrap64 ((-1) - (Go.bits .and .i64 a1 511))) + x9_1)) + 1023))) * 4503599627370496)) (Go.bits .and .u64 (ji13) 4503599627370495))] rfl (by (try simp only [List.map_toArray, List.map_cons, List.map_nil]); first | done | (simp only [hji13]; rfl) | rfl | (simp only [List.length_drop, List.length_take]; rfl)) ?_; (with_reducible refine (real_Kind.calls (Go.bits .or .u64 (IntKind.u64.wrap ((IntKind.u64.wrap (wrap64 ((wrap64 ((wrap64 ((-1) - (Go.bits .and .i64 a1 511))) + x9_1)) + 1023))) * 4503599627370496)) (Go.bits .and .u64 (ji13) 4503599627370495)) t178 _ A34.out).mono ?_); rintro e w' ⟨rfl, ⟨nd, rfl⟩⟩; refine ⟨_, rfl, ?_⟩) | (go_at_call 12; (with_reducible refine (real_Text.calls (Go.bits .or .u64 (IntKind.u64.wrap ((IntKind.u64.wrap (wrap64 ((wrap64 ((wrap64 ((-1) - (Go.bits .and .i64 a1 511))) + x9_1)) + 1023))) * 4503599627370496)) (Go.bits .and .u64 (ji13) 4503599627370495)) t179 _ (Tabs.below HT.out (by repeat (first | (with_reducible first | exact HB.out | apply below_alloc | apply pw_below_drewN | apply below_drew1) | exact HB.out))) A36.out).mono ?_); rintro e w40 ⟨rfl, hb⟩; have n0_ := Aside0.mk (below_step (by repeat (first | (with_reducible first | exact HB.out | apply below_alloc | apply pw_below_drewN | apply below_drew1) | exact HB.out)) hb); clear HB; have HB := n0_; clear n0_; (try clear hb); (try clear hb2); (try clear hk); (try clear hi)))
                        go_ret
                        exact ⟨by first | rfl | (simp [errW_none, errW_some] <;> rfl) | (simp only [← hji7, ← hji9, ← hji11, ← hji13]; first | rfl | (simp [errW_none, errW_some] <;> rfl)) | (simp [*, errW_none, errW_some] <;> rfl), by repeat (first | (with_reducible first | exact HB.out | apply below_alloc | apply pw_below_drewN | apply below_drew1) | exact HB.out)⟩
                      · rw [if_neg c37] at H
                        have c37b0 : (t179.toList == ((t170 ++ (⟨#[112, 45]⟩ : ByteArray)) ++ t171).toList) = false := beq_eq_false_iff_ne.mpr c37
                        have c37b1 : (t179.toList != ((t170 ++ (⟨#[112, 45]⟩ : ByteArray)) ++ t171).toList) = true := bne_iff_ne.mpr c37
                        obtain rfl := Option.some.inj H
                        go_wp2_with (first | ((with_reducible refine gate_callee (f := 15) rfl ?_); refine goesL_ (some 44) rfl rfl Tryd.func15 (by kernel_rfl) rfl #[.int .i64 (wrap64 ((Go.bits .or .u64 (Go.bits .and .u64 a0 4503599627370495) 1)))] rfl (by (try simp only [List.map_toArray, List.map_cons, List.map_nil]); first | done | rfl | (simp only [List.length_drop, List.length_take]; rfl)) ?_; (with_reducible refine (stoleref0_Decimal.calls k1 (wrap64 ((Go.bits .or .u64 (Go.bits .and .u64 a0 4503599627370495) 1))) t170 _ A14.out).mono ?_); rintro e w41 ⟨rfl, hb⟩; refine ⟨_, rfl, ?_⟩; have n0_ := Aside0.mk (below_step (by repeat (first | (with_reducible first | exact HB.out | apply below_alloc | apply pw_below_drewN | apply below_drew1) | exact HB.out)) hb); clear HB; have HB := n0_; clear n0_; (try clear hb); (try clear hb2); (try clear hk); (try clear hi)) | ((with_reducible refine gate_callee (f := 15) rfl ?_); refine goesL_ (some 48) rfl rfl Tryd.func15 (by kernel_rfl) rfl #[.int .i64 (wrap64 (-(wrap64 ((-1) - (Go.bits .and .i64 a1 511)))))] rfl (by (try simp only [List.map_toArray, List.map_cons, List.map_nil]); first | done | rfl | (simp only [List.length_drop, List.length_take]; rfl)) ?_; (with_reducible refine (stoleref0_Decimal.calls k1 (wrap64 (-(wrap64 ((-1) - (Go.bits .and .i64 a1 511))))) t171 _ A16.out).mono ?_); rintro e w42 ⟨rfl, hb⟩; refine ⟨_, rfl, ?_⟩; have n0_ := Aside0.mk (below_step (by repeat (first | (with_reducible first | exact HB.out | apply below_alloc | apply pw_below_drewN | apply below_drew1) | exact HB.out)) hb); clear HB; have HB := n0_; clear n0_; (try clear hb); (try clear hb2); (try clear hk); (try clear hi)) | ((with_reducible refine gate_callee (f := 8) rfl ?_); refine goesL_ (some 57) rfl rfl Tryd.func8 (by kernel_rfl) rfl #[.int .u64 (Go.bits .or .u64 (IntKind.u64.wrap ((IntKind.u64.wrap (wrap64 ((wrap64 ((wrap64 ((-1) - (Go.bits .and .i64 a1 511))) + x9_1)) + 1023))) * 4503599627370496)) (Go.bits .and .u64 (ji13) 4503599627370495))] rfl (by (try simp only [List.map_toArray, List.map_cons, List.map_nil]); first | done | (simp only [hji13]; rfl) | rfl | (simp only [List.length_drop, List.length_take]; rfl)) ?_; (with_reducible refine (real_Whole.calls (Go.bits .or .u64 (IntKind.u64.wrap ((IntKind.u64.wrap (wrap64 ((wrap64 ((wrap64 ((-1) - (Go.bits .and .i64 a1 511))) + x9_1)) + 1023))) * 4503599627370496)) (Go.bits .and .u64 (ji13) 4503599627370495)) t176 t177 _ A33.out).mono ?_); rintro e w' ⟨rfl, ⟨nd, rfl⟩⟩; refine ⟨_, rfl, ?_⟩) | ((with_reducible refine gate_callee (f := 10) rfl ?_); refine goesL_ (some 61) rfl rfl Tryd.func10 (by kernel_rfl) rfl #[.int .u64 (Go.bits .or .u64 (IntKind.u64.wrap ((IntKind.u64.wrap (wrap64 ((wrap64 ((wrap64 ((-1) - (Go.bits .and .i64 a1 511))) + x9_1)) + 1023))) * 4503599627370496)) (Go.bits .and .u64 (ji13) 4503599627370495))] rfl (by (try simp only [List.map_toArray, List.map_cons, List.map_nil]); first | done | (simp only [hji13]; rfl) | rfl | (simp only [List.length_drop, List.length_take]; rfl)) ?_; (with_reducible refine (real_Kind.calls (Go.bits .or .u64 (IntKind.u64.wrap ((IntKind.u64.wrap (wrap64 ((wrap64 ((wrap64 ((-1) - (Go.bits .and .i64 a1 511))) + x9_1)) + 1023))) * 4503599627370496)) (Go.bits .and .u64 (ji13) 4503599627370495)) t178 _ A34.out).mono ?_); rintro e w' ⟨rfl, ⟨nd, rfl⟩⟩; refine ⟨_, rfl, ?_⟩) | (go_at_call 12; (with_reducible refine (real_Text.calls (Go.bits .or .u64 (IntKind.u64.wrap ((IntKind.u64.wrap (wrap64 ((wrap64 ((wrap64 ((-1) - (Go.bits .and .i64 a1 511))) + x9_1)) + 1023))) * 4503599627370496)) (Go.bits .and .u64 (ji13) 4503599627370495)) t179 _ (Tabs.below HT.out (by repeat (first | (with_reducible first | exact HB.out | apply below_alloc | apply pw_below_drewN | apply below_drew1) | exact HB.out))) A36.out).mono ?_); rintro e w43 ⟨rfl, hb⟩; have n0_ := Aside0.mk (below_step (by repeat (first | (with_reducible first | exact HB.out | apply below_alloc | apply pw_below_drewN | apply below_drew1) | exact HB.out)) hb); clear HB; have HB := n0_; clear n0_; (try clear hb); (try clear hb2); (try clear hk); (try clear hi)))
                        go_ret
                        exact ⟨by first | rfl | (simp [errW_none, errW_some] <;> rfl) | (simp only [← hji7, ← hji9, ← hji11, ← hji13]; first | rfl | (simp [errW_none, errW_some] <;> rfl)) | (simp [*, errW_none, errW_some] <;> rfl), by repeat (first | (with_reducible first | exact HB.out | apply below_alloc | apply pw_below_drewN | apply below_drew1) | exact HB.out)⟩
                    · rw [if_neg c35] at H
                      have c35b0 : (t178 == 4) = false := beq_eq_false_iff_ne.mpr c35
                      have c35b1 : (t178 != 4) = true := bne_iff_ne.mpr c35
                      obtain rfl := Option.some.inj H
                      go_wp2_with (first | ((with_reducible refine gate_callee (f := 15) rfl ?_); refine goesL_ (some 44) rfl rfl Tryd.func15 (by kernel_rfl) rfl #[.int .i64 (wrap64 ((Go.bits .or .u64 (Go.bits .and .u64 a0 4503599627370495) 1)))] rfl (by (try simp only [List.map_toArray, List.map_cons, List.map_nil]); first | done | rfl | (simp only [List.length_drop, List.length_take]; rfl)) ?_; (with_reducible refine (stoleref0_Decimal.calls k1 (wrap64 ((Go.bits .or .u64 (Go.bits .and .u64 a0 4503599627370495) 1))) t170 _ A14.out).mono ?_); rintro e w44 ⟨rfl, hb⟩; refine ⟨_, rfl, ?_⟩; have n0_ := Aside0.mk (below_step (by repeat (first | (with_reducible first | exact HB.out | apply below_alloc | apply pw_below_drewN | apply below_drew1) | exact HB.out)) hb); clear HB; have HB := n0_; clear n0_; (try clear hb); (try clear hb2); (try clear hk); (try clear hi)) | ((with_reducible refine gate_callee (f := 15) rfl ?_); refine goesL_ (some 48) rfl rfl Tryd.func15 (by kernel_rfl) rfl #[.int .i64 (wrap64 (-(wrap64 ((-1) - (Go.bits .and .i64 a1 511)))))] rfl (by (try simp only [List.map_toArray, List.map_cons, List.map_nil]); first | done | rfl | (simp only [List.length_drop, List.length_take]; rfl)) ?_; (with_reducible refine (stoleref0_Decimal.calls k1 (wrap64 (-(wrap64 ((-1) - (Go.bits .and .i64 a1 511))))) t171 _ A16.out).mono ?_); rintro e w45 ⟨rfl, hb⟩; refine ⟨_, rfl, ?_⟩; have n0_ := Aside0.mk (below_step (by repeat (first | (with_reducible first | exact HB.out | apply below_alloc | apply pw_below_drewN | apply below_drew1) | exact HB.out)) hb); clear HB; have HB := n0_; clear n0_; (try clear hb); (try clear hb2); (try clear hk); (try clear hi)) | ((with_reducible refine gate_callee (f := 8) rfl ?_); refine goesL_ (some 57) rfl rfl Tryd.func8 (by kernel_rfl) rfl #[.int .u64 (Go.bits .or .u64 (IntKind.u64.wrap ((IntKind.u64.wrap (wrap64 ((wrap64 ((wrap64 ((-1) - (Go.bits .and .i64 a1 511))) + x9_1)) + 1023))) * 4503599627370496)) (Go.bits .and .u64 (ji13) 4503599627370495))] rfl (by (try simp only [List.map_toArray, List.map_cons, List.map_nil]); first | done | (simp only [hji13]; rfl) | rfl | (simp only [List.length_drop, List.length_take]; rfl)) ?_; (with_reducible refine (real_Whole.calls (Go.bits .or .u64 (IntKind.u64.wrap ((IntKind.u64.wrap (wrap64 ((wrap64 ((wrap64 ((-1) - (Go.bits .and .i64 a1 511))) + x9_1)) + 1023))) * 4503599627370496)) (Go.bits .and .u64 (ji13) 4503599627370495)) t176 t177 _ A33.out).mono ?_); rintro e w' ⟨rfl, ⟨nd, rfl⟩⟩; refine ⟨_, rfl, ?_⟩) | ((with_reducible refine gate_callee (f := 10) rfl ?_); refine goesL_ (some 61) rfl rfl Tryd.func10 (by kernel_rfl) rfl #[.int .u64 (Go.bits .or .u64 (IntKind.u64.wrap ((IntKind.u64.wrap (wrap64 ((wrap64 ((wrap64 ((-1) - (Go.bits .and .i64 a1 511))) + x9_1)) + 1023))) * 4503599627370496)) (Go.bits .and .u64 (ji13) 4503599627370495))] rfl (by (try simp only [List.map_toArray, List.map_cons, List.map_nil]); first | done | (simp only [hji13]; rfl) | rfl | (simp only [List.length_drop, List.length_take]; rfl)) ?_; (with_reducible refine (real_Kind.calls (Go.bits .or .u64 (IntKind.u64.wrap ((IntKind.u64.wrap (wrap64 ((wrap64 ((wrap64 ((-1) - (Go.bits .and .i64 a1 511))) + x9_1)) + 1023))) * 4503599627370496)) (Go.bits .and .u64 (ji13) 4503599627370495)) t178 _ A34.out).mono ?_); rintro e w' ⟨rfl, ⟨nd, rfl⟩⟩; refine ⟨_, rfl, ?_⟩))
                      go_ret
                      exact ⟨by first | rfl | (simp [errW_none, errW_some] <;> rfl) | (simp only [← hji7, ← hji9, ← hji11, ← hji13]; first | rfl | (simp [errW_none, errW_some] <;> rfl)) | (simp [*, errW_none, errW_some] <;> rfl), by repeat (first | (with_reducible first | exact HB.out | apply below_alloc | apply pw_below_drewN | apply below_drew1) | exact HB.out)⟩
                · rw [if_neg c17] at H
                  exact absurd H (by simp)
              · rw [if_neg c15] at H
                exact absurd H (by simp)
            · rw [if_neg c12] at H
              exact absurd H (by simp)
        · rw [if_neg c8] at H
          exact absurd H (by simp)
  · replace c5 := Bool.eq_false_iff.mpr c5
    subst c5
    have H1 : (some false) = some r := by rw [if_neg (show ¬ (false = true) by decide)] at H; exact H
    clear H
    have H := H1
    clear H1
    obtain rfl := Option.some.inj H
    go_enter Tryd.func5, Tryd.ntmps5
    go_wp2_with (first | ((with_reducible refine gate_callee (f := 14) rfl ?_); refine goesL_ (some 14) rfl rfl Tryd.func14 (by kernel_rfl) rfl #[] rfl (by (try simp only [List.map_toArray, List.map_cons, List.map_nil]); first | done | rfl | (simp only [List.length_drop, List.length_take]; rfl)) ?_; (with_reducible refine (stolelaw3_awake.calls  false _ (Tabs.below HT.out (by repeat (first | (with_reducible first | exact HB.out | apply below_alloc | apply pw_below_drewN | apply below_drew1) | exact HB.out))) A4.out).mono ?_); rintro e w46 ⟨rfl, hb⟩; refine ⟨_, rfl, ?_⟩; have n0_ := Aside0.mk (below_step (by repeat (first | (with_reducible first | exact HB.out | apply below_alloc | apply pw_below_drewN | apply below_drew1) | exact HB.out)) hb); clear HB; have HB := n0_; clear n0_; (try clear hb); (try clear hb2); (try clear hk); (try clear hi)))
    go_ret
    exact ⟨by first | rfl | (simp [errW_none, errW_some] <;> rfl) | (simp [*, errW_none, errW_some] <;> rfl), by repeat (first | (with_reducible first | exact HB.out | apply below_alloc | apply pw_below_drewN | apply below_drew1) | exact HB.out)⟩

/-- THE ONE PURE STATEMENT of stolelaw3_RealOthers: yours. -/
def stolelaw3_RealOthers.Pure : Prop := ∀ (a0 : Int) (a1 : Int) (a2 : Bool), (Lit.int .u64 a0).wf = true → (Lit.int .i64 a1).wf = true → ∃ k, stolelaw3_RealOthers.f k a0 a1 a2 = some true
theorem stolelaw3_RealOthers.walk (P : stolelaw3_RealOthers.Pure) (a0 : Int) (a1 : Int) (a2 : Bool) (w : World) (hT : Tabs w) (w0 : (Lit.int .u64 a0).wf = true) (w1 : (Lit.int .i64 a1).wf = true) :
    Calls Tryd.prog 5 #[.int .u64 a0, .int .i64 a1, .bool a2] w fun e w' => e = .returned (.bool true) ∧ Below w.heap.size w w' := by
  obtain ⟨k, h⟩ := P a0 a1 a2 w0 w1
  refine (stolelaw3_RealOthers.calls k a0 a1 a2 true w hT h).mono ?_
  rintro e w' ⟨rfl, hd⟩
  exact ⟨rfl, hd⟩

/-! ### stolelaw3_RealSigns: function 6 -/
def stolelaw3_RealSigns.j0 : Nat → ByteArray → ByteArray → Bool → Int → Bool → Option (Bool)
  | 0, _, _, _, _, _ => none
  | k + 1, x5, x6, x8, x11, x48 => if x48 = true then (some false) else (if x11 = 0 then (if x5.toList = ([78, 97, 78] : List UInt8) then (some (x6.toList == x5.toList)) else (some false)) else (if 1 + x5.size ≤ 9223372036854775807 then (if x6.toList = ((⟨#[45]⟩ : ByteArray) ++ x5).toList then (if x5.toList = ([] : List UInt8) then (some false) else (if 0 < (x5.size : Int) then (if (bt x5 0) = 45 then (some false) else (if x11 = 2 then (some (x8 == true)) else (some (x8 == (x11 == 3))))) else (none))) else (some false)) else (none)))
def stolelaw3_RealSigns.f (k : Nat) (a0 : Int) : Option (Bool) := (stolelaw3_awake.f).bind fun t180 => (if t180 = true then ((real_Text.f (Go.bits .and .u64 a0 9223372036854775807)).bind fun t181 => ((real_Text.f (Go.bits .or .u64 a0 9223372036854775808)).bind fun t182 => ((real_Whole.f (Go.bits .and .u64 a0 9223372036854775807)).bind fun bt183 => ((real_Whole.f (Go.bits .or .u64 a0 9223372036854775808)).bind fun bt185 => ((real_Kind.f (Go.bits .and .u64 a0 9223372036854775807)).bind fun t187 => ((real_Kind.f (Go.bits .or .u64 a0 9223372036854775808)).bind fun t188 => (if t187 = t188 then (if (bt183.2 != bt185.2) = true then (stolelaw3_RealSigns.j0 k t181 t182 bt183.2 t187 true) else (stolelaw3_RealSigns.j0 k t181 t182 bt183.2 t187 (bt183.1 != (wrap64 (-bt185.1))))) else (stolelaw3_RealSigns.j0 k t181 t182 bt183.2 t187 true)))))))) else (some false))
theorem stolelaw3_RealSigns.mono_l : ∀ k, (∀ y0 y1 y2 y3 y4, LeO (stolelaw3_RealSigns.j0 k y0 y1 y2 y3 y4) (stolelaw3_RealSigns.j0 (k + 1) y0 y1 y2 y3 y4))
  | 0 => fun _ _ _ _ _ r h => by simp [stolelaw3_RealSigns.j0] at h
  | k + 1 => by
    have ih0 := stolelaw3_RealSigns.mono_l k
    · intro y0 y1 y2 y3 y4
      unfold stolelaw3_RealSigns.j0
      repeat' first
      | (with_reducible exact ih0 _ _ _ _ _)
      | (with_reducible exact LeO.refl _)
      | (with_reducible exact LeO.none _)
      | (with_reducible refine LeO.ite ?_ ?_)
      | (with_reducible refine LeO.bind ?_ (fun _ => ?_))
      | exact ih0 _ _ _ _ _
      | exact LeO.none _
      | refine LeO.ite ?_ ?_
      | refine LeO.bind ?_ (fun _ => ?_)
theorem stolelaw3_RealSigns.mono : ∀ a0 k, LeO (stolelaw3_RealSigns.f k a0) (stolelaw3_RealSigns.f (k + 1) a0) := by
  intro a0 k
  have ih0 := stolelaw3_RealSigns.mono_l k
  unfold stolelaw3_RealSigns.f
  repeat' first
      | (with_reducible exact ih0 _ _ _ _ _)
      | (with_reducible exact LeO.refl _)
      | (with_reducible exact LeO.none _)
      | (with_reducible refine LeO.ite ?_ ?_)
      | (with_reducible refine LeO.bind ?_ (fun _ => ?_))
      | exact ih0 _ _ _ _ _
      | exact LeO.none _
      | refine LeO.ite ?_ ?_
      | refine LeO.bind ?_ (fun _ => ?_)
set_option maxHeartbeats 8000000 in
set_option maxRecDepth 100000 in
theorem stolelaw3_RealSigns.calls (k : Nat) (a0 : Int) (r : Bool) (w : World) (hT : Tabs w) (h : stolelaw3_RealSigns.f k a0 = some r) :
    Calls Tryd.prog 6 #[.int .u64 a0] w fun e w' => e = .returned (.bool r) ∧ Below w.heap.size w w' := by
  have HT := Aside0.mk hT
  clear hT
  have HB := Aside0.mk (Below.refl w.heap.size w)
  have H : ((stolelaw3_awake.f).bind fun t180 => (if t180 = true then ((real_Text.f (Go.bits .and .u64 a0 9223372036854775807)).bind fun t181 => ((real_Text.f (Go.bits .or .u64 a0 9223372036854775808)).bind fun t182 => ((real_Whole.f (Go.bits .and .u64 a0 9223372036854775807)).bind fun bt183 => ((real_Whole.f (Go.bits .or .u64 a0 9223372036854775808)).bind fun bt185 => ((real_Kind.f (Go.bits .and .u64 a0 9223372036854775807)).bind fun t187 => ((real_Kind.f (Go.bits .or .u64 a0 9223372036854775808)).bind fun t188 => (if t187 = t188 then (if (bt183.2 != bt185.2) = true then (stolelaw3_RealSigns.j0 k t181 t182 bt183.2 t187 true) else (stolelaw3_RealSigns.j0 k t181 t182 bt183.2 t187 (bt183.1 != (wrap64 (-bt185.1))))) else (stolelaw3_RealSigns.j0 k t181 t182 bt183.2 t187 true)))))))) else (some false))) = some r := h
  clear h
  replace H := Option.bind_eq_some_iff.mp H
  obtain ⟨t180, A20, H⟩ := H
  replace H : (if t180 = true then ((real_Text.f (Go.bits .and .u64 a0 9223372036854775807)).bind fun t181 => ((real_Text.f (Go.bits .or .u64 a0 9223372036854775808)).bind fun t182 => ((real_Whole.f (Go.bits .and .u64 a0 9223372036854775807)).bind fun bt183 => ((real_Whole.f (Go.bits .or .u64 a0 9223372036854775808)).bind fun bt185 => ((real_Kind.f (Go.bits .and .u64 a0 9223372036854775807)).bind fun t187 => ((real_Kind.f (Go.bits .or .u64 a0 9223372036854775808)).bind fun t188 => (if t187 = t188 then (if (bt183.2 != bt185.2) = true then (stolelaw3_RealSigns.j0 k t181 t182 bt183.2 t187 true) else (stolelaw3_RealSigns.j0 k t181 t182 bt183.2 t187 (bt183.1 != (wrap64 (-bt185.1))))) else (stolelaw3_RealSigns.j0 k t181 t182 bt183.2 t187 true)))))))) else (some false)) = some r := H
  have A2 := Aside0.mk A20
  clear A20
  by_cases c3 : t180 = true
  · subst c3
    have H1 : ((real_Text.f (Go.bits .and .u64 a0 9223372036854775807)).bind fun t181 => ((real_Text.f (Go.bits .or .u64 a0 9223372036854775808)).bind fun t182 => ((real_Whole.f (Go.bits .and .u64 a0 9223372036854775807)).bind fun bt183 => ((real_Whole.f (Go.bits .or .u64 a0 9223372036854775808)).bind fun bt185 => ((real_Kind.f (Go.bits .and .u64 a0 9223372036854775807)).bind fun t187 => ((real_Kind.f (Go.bits .or .u64 a0 9223372036854775808)).bind fun t188 => (if t187 = t188 then (if (bt183.2 != bt185.2) = true then (stolelaw3_RealSigns.j0 k t181 t182 bt183.2 t187 true) else (stolelaw3_RealSigns.j0 k t181 t182 bt183.2 t187 (bt183.1 != (wrap64 (-bt185.1))))) else (stolelaw3_RealSigns.j0 k t181 t182 bt183.2 t187 true)))))))) = some r := by rw [if_pos rfl] at H; exact H
    clear H
    have H := H1
    clear H1
    replace H := Option.bind_eq_some_iff.mp H
    obtain ⟨t181, A40, H⟩ := H
    replace H : ((real_Text.f (Go.bits .or .u64 a0 9223372036854775808)).bind fun t182 => ((real_Whole.f (Go.bits .and .u64 a0 9223372036854775807)).bind fun bt183 => ((real_Whole.f (Go.bits .or .u64 a0 9223372036854775808)).bind fun bt185 => ((real_Kind.f (Go.bits .and .u64 a0 9223372036854775807)).bind fun t187 => ((real_Kind.f (Go.bits .or .u64 a0 9223372036854775808)).bind fun t188 => (if t187 = t188 then (if (bt183.2 != bt185.2) = true then (stolelaw3_RealSigns.j0 k t181 t182 bt183.2 t187 true) else (stolelaw3_RealSigns.j0 k t181 t182 bt183.2 t187 (bt183.1 != (wrap64 (-bt185.1))))) else (stolelaw3_RealSigns.j0 k t181 t182 bt183.2 t187 true))))))) = some r := H
    have A4 := Aside0.mk A40
    clear A40
    replace H := Option.bind_eq_some_iff.mp H
    obtain ⟨t182, A50, H⟩ := H
    replace H : ((real_Whole.f (Go.bits .and .u64 a0 9223372036854775807)).bind fun bt183 => ((real_Whole.f (Go.bits .or .u64 a0 9223372036854775808)).bind fun bt185 => ((real_Kind.f (Go.bits .and .u64 a0 9223372036854775807)).bind fun t187 => ((real_Kind.f (Go.bits .or .u64 a0 9223372036854775808)).bind fun t188 => (if t187 = t188 then (if (bt183.2 != bt185.2) = true then (stolelaw3_RealSigns.j0 k t181 t182 bt183.2 t187 true) else (stolelaw3_RealSigns.j0 k t181 t182 bt183.2 t187 (bt183.1 != (wrap64 (-bt185.1))))) else (stolelaw3_RealSigns.j0 k t181 t182 bt183.2 t187 true)))))) = some r := H
    have A5 := Aside0.mk A50
    clear A50
    replace H := Option.bind_eq_some_iff.mp H
    obtain ⟨⟨t183, t184⟩, A60, H⟩ := H
    replace H : ((real_Whole.f (Go.bits .or .u64 a0 9223372036854775808)).bind fun bt185 => ((real_Kind.f (Go.bits .and .u64 a0 9223372036854775807)).bind fun t187 => ((real_Kind.f (Go.bits .or .u64 a0 9223372036854775808)).bind fun t188 => (if t187 = t188 then (if (t184 != bt185.2) = true then (stolelaw3_RealSigns.j0 k t181 t182 t184 t187 true) else (stolelaw3_RealSigns.j0 k t181 t182 t184 t187 (t183 != (wrap64 (-bt185.1))))) else (stolelaw3_RealSigns.j0 k t181 t182 t184 t187 true))))) = some r := H
    have A6 := Aside0.mk A60
    clear A60
    replace H := Option.bind_eq_some_iff.mp H
    obtain ⟨⟨t185, t186⟩, A70, H⟩ := H
    replace H : ((real_Kind.f (Go.bits .and .u64 a0 9223372036854775807)).bind fun t187 => ((real_Kind.f (Go.bits .or .u64 a0 9223372036854775808)).bind fun t188 => (if t187 = t188 then (if (t184 != t186) = true then (stolelaw3_RealSigns.j0 k t181 t182 t184 t187 true) else (stolelaw3_RealSigns.j0 k t181 t182 t184 t187 (t183 != (wrap64 (-t185))))) else (stolelaw3_RealSigns.j0 k t181 t182 t184 t187 true)))) = some r := H
    have A7 := Aside0.mk A70
    clear A70
    replace H := Option.bind_eq_some_iff.mp H
    obtain ⟨t187, A80, H⟩ := H
    replace H : ((real_Kind.f (Go.bits .or .u64 a0 9223372036854775808)).bind fun t188 => (if t187 = t188 then (if (t184 != t186) = true then (stolelaw3_RealSigns.j0 k t181 t182 t184 t187 true) else (stolelaw3_RealSigns.j0 k t181 t182 t184 t187 (t183 != (wrap64 (-t185))))) else (stolelaw3_RealSigns.j0 k t181 t182 t184 t187 true))) = some r := H
    have A8 := Aside0.mk A80
    clear A80
    have HC9 := Aside0.mk H
    clear H
    go_enter Tryd.func6, Tryd.ntmps6
    go_upto_region 8 with (first | ((with_reducible refine gate_callee (f := 14) rfl ?_); refine goesL_ (some 12) rfl rfl Tryd.func14 (by kernel_rfl) rfl #[] rfl (by (try simp only [List.map_toArray, List.map_cons, List.map_nil]); first | done | rfl | (simp only [List.length_drop, List.length_take]; rfl)) ?_; (with_reducible refine (stolelaw3_awake.calls  true _ (Tabs.below HT.out (by repeat (first | (with_reducible first | exact HB.out | apply below_alloc | apply pw_below_drewN | apply below_drew1) | exact HB.out))) A2.out).mono ?_); rintro e w10 ⟨rfl, hb⟩; refine ⟨_, rfl, ?_⟩; have n0_ := Aside0.mk (below_step (by repeat (first | (with_reducible first | exact HB.out | apply below_alloc | apply pw_below_drewN | apply below_drew1) | exact HB.out)) hb); clear HB; have HB := n0_; clear n0_; (try clear hb); (try clear hb2); (try clear hk); (try clear hi)) | ((with_reducible refine gate_callee (f := 12) rfl ?_); refine goesL_ (some 19) rfl rfl Tryd.func12 (by kernel_rfl) rfl #[.int .u64 (Go.bits .and .u64 a0 9223372036854775807)] rfl (by (try simp only [List.map_toArray, List.map_cons, List.map_nil]); first | done | rfl | (simp only [List.length_drop, List.length_take]; rfl)) ?_; (with_reducible refine (real_Text.calls (Go.bits .and .u64 a0 9223372036854775807) t181 _ (Tabs.below HT.out (by repeat (first | (with_reducible first | exact HB.out | apply below_alloc | apply pw_below_drewN | apply below_drew1) | exact HB.out))) A4.out).mono ?_); rintro e w11 ⟨rfl, hb⟩; refine ⟨_, rfl, ?_⟩; have n0_ := Aside0.mk (below_step (by repeat (first | (with_reducible first | exact HB.out | apply below_alloc | apply pw_below_drewN | apply below_drew1) | exact HB.out)) hb); clear HB; have HB := n0_; clear n0_; (try clear hb); (try clear hb2); (try clear hk); (try clear hi)) | ((with_reducible refine gate_callee (f := 12) rfl ?_); refine goesL_ (some 21) rfl rfl Tryd.func12 (by kernel_rfl) rfl #[.int .u64 (Go.bits .or .u64 a0 9223372036854775808)] rfl (by (try simp only [List.map_toArray, List.map_cons, List.map_nil]); first | done | rfl | (simp only [List.length_drop, List.length_take]; rfl)) ?_; (with_reducible refine (real_Text.calls (Go.bits .or .u64 a0 9223372036854775808) t182 _ (Tabs.below HT.out (by repeat (first | (with_reducible first | exact HB.out | apply below_alloc | apply pw_below_drewN | apply below_drew1) | exact HB.out))) A5.out).mono ?_); rintro e w12 ⟨rfl, hb⟩; refine ⟨_, rfl, ?_⟩; have n0_ := Aside0.mk (below_step (by repeat (first | (with_reducible first | exact HB.out | apply below_alloc | apply pw_below_drewN | apply below_drew1) | exact HB.out)) hb); clear HB; have HB := n0_; clear n0_; (try clear hb); (try clear hb2); (try clear hk); (try clear hi)) | ((with_reducible refine gate_callee (f := 8) rfl ?_); refine goesL_ (some 24) rfl rfl Tryd.func8 (by kernel_rfl) rfl #[.int .u64 (Go.bits .and .u64 a0 9223372036854775807)] rfl (by (try simp only [List.map_toArray, List.map_cons, List.map_nil]); first | done | rfl | (simp only [List.length_drop, List.length_take]; rfl)) ?_; (with_reducible refine (real_Whole.calls (Go.bits .and .u64 a0 9223372036854775807) t183 t184 _ A6.out).mono ?_); rintro e w' ⟨rfl, ⟨nd, rfl⟩⟩; refine ⟨_, rfl, ?_⟩) | ((with_reducible refine gate_callee (f := 8) rfl ?_); refine goesL_ (some 29) rfl rfl Tryd.func8 (by kernel_rfl) rfl #[.int .u64 (Go.bits .or .u64 a0 9223372036854775808)] rfl (by (try simp only [List.map_toArray, List.map_cons, List.map_nil]); first | done | rfl | (simp only [List.length_drop, List.length_take]; rfl)) ?_; (with_reducible refine (real_Whole.calls (Go.bits .or .u64 a0 9223372036854775808) t185 t186 _ A7.out).mono ?_); rintro e w' ⟨rfl, ⟨nd, rfl⟩⟩; refine ⟨_, rfl, ?_⟩) | ((with_reducible refine gate_callee (f := 10) rfl ?_); refine goesL_ (some 33) rfl rfl Tryd.func10 (by kernel_rfl) rfl #[.int .u64 (Go.bits .and .u64 a0 9223372036854775807)] rfl (by (try simp only [List.map_toArray, List.map_cons, List.map_nil]); first | done | rfl | (simp only [List.length_drop, List.length_take]; rfl)) ?_; (with_reducible refine (real_Kind.calls (Go.bits .and .u64 a0 9223372036854775807) t187 _ A8.out).mono ?_); rintro e w' ⟨rfl, ⟨nd, rfl⟩⟩; refine ⟨_, rfl, ?_⟩))
    (try simp only [Act.put, List.setIfInBounds_toArray, List.set_cons_zero, List.set_cons_succ])
    go_cut [48] (fun v48 wc => ∃ (kq : Nat) (x48_8 : Bool), v48 = .bool x48_8 ∧ Aside0 (stolelaw3_RealSigns.j0 kq t181 t182 t184 t187 x48_8 = some r) ∧ Aside0 (kq ≤ k) ∧ Aside0 (Below w.heap.size w wc))
    case first =>
      have H := HC9.out
      clear HC9
      replace H := Option.bind_eq_some_iff.mp H
      obtain ⟨t188, A130, H⟩ := H
      replace H : (if t187 = t188 then (if (t184 != t186) = true then (stolelaw3_RealSigns.j0 k t181 t182 t184 t187 true) else (stolelaw3_RealSigns.j0 k t181 t182 t184 t187 (t183 != (wrap64 (-t185))))) else (stolelaw3_RealSigns.j0 k t181 t182 t184 t187 true)) = some r := H
      have A13 := Aside0.mk A130
      clear A130
      by_cases c14 : t187 = t188
      · rw [if_pos c14] at H
        have c14b0 : (t187 == t188) = true := beq_iff_eq.mpr c14
        have c14b1 : (t187 != t188) = false := bne_eq_false_iff_eq.mpr c14
        clear c14
        (first | rw [c14b0] | (simp only [i64_w, i32_w]; rw [c14b0]) | skip)
        by_cases c15 : (t184 != t186) = true
        · rw [if_pos c15] at H
          have c15b0 : (t184 != t186) = true := c15
          (try (have c15b1 : decide (t184 = t186) = false := by simpa using c15))
          (try (have c15b2 : (t184 == t186) = false := by simpa using c15))
          (try (have c15b3 : ¬ (t184 = t186) := by simpa using c15))
          clear c15
          have H' := Aside0.mk H
          clear H
          go_wp2_with (first | ((with_reducible refine gate_callee (f := 10) rfl ?_); refine goesL_ (some 36) rfl rfl Tryd.func10 (by kernel_rfl) rfl #[.int .u64 (Go.bits .or .u64 a0 9223372036854775808)] rfl (by (try simp only [List.map_toArray, List.map_cons, List.map_nil]); first | done | rfl | (simp only [List.length_drop, List.length_take]; rfl)) ?_; (with_reducible refine (real_Kind.calls (Go.bits .or .u64 a0 9223372036854775808) t188 _ A13.out).mono ?_); rintro e w' ⟨rfl, ⟨nd, rfl⟩⟩; refine ⟨_, rfl, ?_⟩))
          go_meet
          case rel => exact ⟨_, (true), (by first | rfl | (simp; done) | (simp [*]; done)), H', ⟨by first | omega | exact Nat.le_refl _⟩, ⟨by repeat (first | (with_reducible first | exact HB.out | apply below_alloc | apply pw_below_drewN | apply below_drew1) | exact HB.out)⟩⟩
        · rw [if_neg c15] at H
          have c15b0 : (t184 != t186) = false := by simpa using c15
          (try (have c15b1 : decide (t184 = t186) = true := by simpa using c15))
          (try (have c15b2 : (t184 == t186) = true := by simpa using c15))
          clear c15
          have H' := Aside0.mk H
          clear H
          go_wp2_with (first | ((with_reducible refine gate_callee (f := 10) rfl ?_); refine goesL_ (some 36) rfl rfl Tryd.func10 (by kernel_rfl) rfl #[.int .u64 (Go.bits .or .u64 a0 9223372036854775808)] rfl (by (try simp only [List.map_toArray, List.map_cons, List.map_nil]); first | done | rfl | (simp only [List.length_drop, List.length_take]; rfl)) ?_; (with_reducible refine (real_Kind.calls (Go.bits .or .u64 a0 9223372036854775808) t188 _ A13.out).mono ?_); rintro e w' ⟨rfl, ⟨nd, rfl⟩⟩; refine ⟨_, rfl, ?_⟩))
          go_meet
          case rel => exact ⟨_, ((t183 != (wrap64 (-t185)))), (by first | rfl | (simp; done) | (simp [*]; done)), H', ⟨by first | omega | exact Nat.le_refl _⟩, ⟨by repeat (first | (with_reducible first | exact HB.out | apply below_alloc | apply pw_below_drewN | apply below_drew1) | exact HB.out)⟩⟩
      · rw [if_neg c14] at H
        have c14b0 : (t187 == t188) = false := beq_eq_false_iff_ne.mpr c14
        have c14b1 : (t187 != t188) = true := bne_iff_ne.mpr c14
        (first | rw [c14b0] | (simp only [i64_w, i32_w]; rw [c14b0]) | skip)
        have H' := Aside0.mk H
        clear H
        go_wp2_with (first | ((with_reducible refine gate_callee (f := 10) rfl ?_); refine goesL_ (some 36) rfl rfl Tryd.func10 (by kernel_rfl) rfl #[.int .u64 (Go.bits .or .u64 a0 9223372036854775808)] rfl (by (try simp only [List.map_toArray, List.map_cons, List.map_nil]); first | done | rfl | (simp only [List.length_drop, List.length_take]; rfl)) ?_; (with_reducible refine (real_Kind.calls (Go.bits .or .u64 a0 9223372036854775808) t188 _ A13.out).mono ?_); rintro e w' ⟨rfl, ⟨nd, rfl⟩⟩; refine ⟨_, rfl, ?_⟩))
        go_meet
        case rel => exact ⟨_, (true), (by first | rfl | (simp; done) | (simp [*]; done)), H', ⟨by first | omega | exact Nat.le_refl _⟩, ⟨by repeat (first | (with_reducible first | exact HB.out | apply below_alloc | apply pw_below_drewN | apply below_drew1) | exact HB.out)⟩⟩
    case rest =>
      clear HC9
      try clear c1
      try clear p2
      try clear c3
      try clear c6
      try clear p6
      try clear c8
      try clear c10
      try clear c12
      try clear c14
      try clear c14b0
      try clear c14b1
      try clear c15
      try clear c15b0
      try clear c15b1
      try clear c15b2
      obtain ⟨kq, x48_8, rfl, HA, HJ8, HB⟩ := hcut
      cases kq with
      | zero => exact absurd HA.out (by simp [stolelaw3_RealSigns.j0])
      | succ kj8 =>
        have H := HA.out
        clear HA
        simp only [stolelaw3_RealSigns.j0] at H
        by_cases c16 : x48_8 = true
        · subst c16
          have H1 : (some false) = some r := by rw [if_pos rfl] at H; exact H
          clear H
          have H := H1
          clear H1
          obtain rfl := Option.some.inj H
          go_wp2
          go_ret
          exact ⟨by first | rfl | (simp [errW_none, errW_some] <;> rfl) | (simp [*, errW_none, errW_some] <;> rfl), by repeat (first | (with_reducible first | exact HB.out | apply below_alloc | apply pw_below_drewN | apply below_drew1) | exact HB.out)⟩
        · replace c16 := Bool.eq_false_iff.mpr c16
          subst c16
          have H1 : (if t187 = 0 then (if t181.toList = ([78, 97, 78] : List UInt8) then (some (t182.toList == t181.toList)) else (some false)) else (if 1 + t181.size ≤ 9223372036854775807 then (if t182.toList = ((⟨#[45]⟩ : ByteArray) ++ t181).toList then (if t181.toList = ([] : List UInt8) then (some false) else (if 0 < (t181.size : Int) then (if (bt t181 0) = 45 then (some false) else (if t187 = 2 then (some (t184 == true)) else (some (t184 == (t187 == 3))))) else (none))) else (some false)) else (none))) = some r := by rw [if_neg (show ¬ (false = true) by decide)] at H; exact H
          clear H
          have H := H1
          clear H1
          by_cases c17 : t187 = 0
          · rw [if_pos c17] at H
            have c17b0 : (t187 == 0) = true := beq_iff_eq.mpr c17
            have c17b1 : (t187 != 0) = false := bne_eq_false_iff_eq.mpr c17
            clear c17
            by_cases c18 : t181.toList = ([78, 97, 78] : List UInt8)
            · rw [if_pos c18] at H
              have c18b0 : (t181.toList == ([78, 97, 78] : List UInt8)) = true := beq_iff_eq.mpr c18
              have c18b1 : (t181.toList != ([78, 97, 78] : List UInt8)) = false := bne_eq_false_iff_eq.mpr c18
              clear c18
              obtain rfl := Option.some.inj H
              go_wp2
              go_ret
              exact ⟨by first | rfl | (simp [errW_none, errW_some] <;> rfl) | (simp [*, errW_none, errW_some] <;> rfl), by repeat (first | (with_reducible first | exact HB.out | apply below_alloc | apply pw_below_drewN | apply below_drew1) | exact HB.out)⟩
            · rw [if_neg c18] at H
              have c18b0 : (t181.toList == ([78, 97, 78] : List UInt8)) = false := beq_eq_false_iff_ne.mpr c18
              have c18b1 : (t181.toList != ([78, 97, 78] : List UInt8)) = true := bne_iff_ne.mpr c18
              obtain rfl := Option.some.inj H
              go_wp2
              go_ret
              exact ⟨by first | rfl | (simp [errW_none, errW_some] <;> rfl) | (simp [*, errW_none, errW_some] <;> rfl), by repeat (first | (with_reducible first | exact HB.out | apply below_alloc | apply pw_below_drewN | apply below_drew1) | exact HB.out)⟩
          · rw [if_neg c17] at H
            have c17b0 : (t187 == 0) = false := beq_eq_false_iff_ne.mpr c17
            have c17b1 : (t187 != 0) = true := bne_iff_ne.mpr c17
            by_cases c19 : 1 + t181.size ≤ 9223372036854775807
            · rw [if_pos c19] at H
              have c19b0 := eq_true c19
              have c19b1 : decide (1 + t181.size ≤ 9223372036854775807) = true := decide_eq_true c19
              try have c19b2 : (9223372036854775807 < 1 + t181.size) = False := eq_false (Nat.not_lt.2 c19)
              by_cases c20 : t182.toList = ((⟨#[45]⟩ : ByteArray) ++ t181).toList
              · rw [if_pos c20] at H
                have c20b0 : (t182.toList == ((⟨#[45]⟩ : ByteArray) ++ t181).toList) = true := beq_iff_eq.mpr c20
                have c20b1 : (t182.toList != ((⟨#[45]⟩ : ByteArray) ++ t181).toList) = false := bne_eq_false_iff_eq.mpr c20
                clear c20
                by_cases c21 : t181.toList = ([] : List UInt8)
                · rw [if_pos c21] at H
                  have c21b0 : (t181.toList == ([] : List UInt8)) = true := beq_iff_eq.mpr c21
                  have c21b1 : (t181.toList != ([] : List UInt8)) = false := bne_eq_false_iff_eq.mpr c21
                  clear c21
                  obtain rfl := Option.some.inj H
                  go_wp2
                  go_ret
                  exact ⟨by first | rfl | (simp [errW_none, errW_some] <;> rfl) | (simp [*, errW_none, errW_some] <;> rfl), by repeat (first | (with_reducible first | exact HB.out | apply below_alloc | apply pw_below_drewN | apply below_drew1) | exact HB.out)⟩
                · rw [if_neg c21] at H
                  have c21b0 : (t181.toList == ([] : List UInt8)) = false := beq_eq_false_iff_ne.mpr c21
                  have c21b1 : (t181.toList != ([] : List UInt8)) = true := bne_iff_ne.mpr c21
                  by_cases c22 : 0 < (t181.size : Int)
                  · rw [if_pos c22] at H
                    have c22b0 : decide (0 < (t181.size : Int)) = true := decide_eq_true c22
                    have c22b1 : decide (0 < t181.size) = true := decide_eq_true (by omega)
                    clear c22
                    by_cases c24 : (bt t181 0) = 45
                    · rw [if_pos c24] at H
                      have c24b0 : ((bt t181 0) == 45) = true := beq_iff_eq.mpr c24
                      have c24b1 : ((bt t181 0) != 45) = false := bne_eq_false_iff_eq.mpr c24
                      clear c24
                      obtain rfl := Option.some.inj H
                      have p23 : 0 ≤ (0 : Int) := (by omega)
                      have q23 : 0 < t181.size := (by have : (0 : Int) < (t181.size : Int) := of_decide_eq_true (by first | (with_reducible assumption) | assumption); omega)
                      have hx23 : ∀ h : 0 < t181.size, ((t181[0]'h).toNat : Int) = bt t181 0 := bt_at t181 0
                      clear p23
                      have qi23 : (0 < (t181.size : Int)) = True := eq_true (of_decide_eq_true (by first | (with_reducible assumption) | assumption))
                      replace q23 := eq_true q23
                      go_wp2
                      go_ret
                      exact ⟨by first | rfl | (simp [errW_none, errW_some] <;> rfl) | (simp [*, errW_none, errW_some] <;> rfl), by repeat (first | (with_reducible first | exact HB.out | apply below_alloc | apply pw_below_drewN | apply below_drew1) | exact HB.out)⟩
                    · rw [if_neg c24] at H
                      have c24b0 : ((bt t181 0) == 45) = false := beq_eq_false_iff_ne.mpr c24
                      have c24b1 : ((bt t181 0) != 45) = true := bne_iff_ne.mpr c24
                      by_cases c25 : t187 = 2
                      · rw [if_pos c25] at H
                        have c25b0 : (t187 == 2) = true := beq_iff_eq.mpr c25
                        have c25b1 : (t187 != 2) = false := bne_eq_false_iff_eq.mpr c25
                        clear c25
                        obtain rfl := Option.some.inj H
                        have p23 : 0 ≤ (0 : Int) := (by omega)
                        have q23 : 0 < t181.size := (by have : (0 : Int) < (t181.size : Int) := of_decide_eq_true (by first | (with_reducible assumption) | assumption); omega)
                        have hx23 : ∀ h : 0 < t181.size, ((t181[0]'h).toNat : Int) = bt t181 0 := bt_at t181 0
                        clear p23
                        have qi23 : (0 < (t181.size : Int)) = True := eq_true (of_decide_eq_true (by first | (with_reducible assumption) | assumption))
                        replace q23 := eq_true q23
                        go_wp2
                        go_ret
                        exact ⟨by first | rfl | (simp [errW_none, errW_some] <;> rfl) | (simp [*, errW_none, errW_some] <;> rfl), by repeat (first | (with_reducible first | exact HB.out | apply below_alloc | apply pw_below_drewN | apply below_drew1) | exact HB.out)⟩
                      · rw [if_neg c25] at H
                        have c25b0 : (t187 == 2) = false := beq_eq_false_iff_ne.mpr c25
                        have c25b1 : (t187 != 2) = true := bne_iff_ne.mpr c25
                        obtain rfl := Option.some.inj H
                        have p23 : 0 ≤ (0 : Int) := (by omega)
                        have q23 : 0 < t181.size := (by have : (0 : Int) < (t181.size : Int) := of_decide_eq_true (by first | (with_reducible assumption) | assumption); omega)
                        have hx23 : ∀ h : 0 < t181.size, ((t181[0]'h).toNat : Int) = bt t181 0 := bt_at t181 0
                        clear p23
                        have qi23 : (0 < (t181.size : Int)) = True := eq_true (of_decide_eq_true (by first | (with_reducible assumption) | assumption))
                        replace q23 := eq_true q23
                        go_wp2
                        go_ret
                        exact ⟨by first | rfl | (simp [errW_none, errW_some] <;> rfl) | (simp [*, errW_none, errW_some] <;> rfl), by repeat (first | (with_reducible first | exact HB.out | apply below_alloc | apply pw_below_drewN | apply below_drew1) | exact HB.out)⟩
                  · rw [if_neg c22] at H
                    exact absurd H (by simp)
              · rw [if_neg c20] at H
                have c20b0 : (t182.toList == ((⟨#[45]⟩ : ByteArray) ++ t181).toList) = false := beq_eq_false_iff_ne.mpr c20
                have c20b1 : (t182.toList != ((⟨#[45]⟩ : ByteArray) ++ t181).toList) = true := bne_iff_ne.mpr c20
                obtain rfl := Option.some.inj H
                go_wp2
                go_ret
                exact ⟨by first | rfl | (simp [errW_none, errW_some] <;> rfl) | (simp [*, errW_none, errW_some] <;> rfl), by repeat (first | (with_reducible first | exact HB.out | apply below_alloc | apply pw_below_drewN | apply below_drew1) | exact HB.out)⟩
            · rw [if_neg c19] at H
              exact absurd H (by simp)
  · replace c3 := Bool.eq_false_iff.mpr c3
    subst c3
    have H1 : (some false) = some r := by rw [if_neg (show ¬ (false = true) by decide)] at H; exact H
    clear H
    have H := H1
    clear H1
    obtain rfl := Option.some.inj H
    go_enter Tryd.func6, Tryd.ntmps6
    go_wp2_with (first | ((with_reducible refine gate_callee (f := 14) rfl ?_); refine goesL_ (some 12) rfl rfl Tryd.func14 (by kernel_rfl) rfl #[] rfl (by (try simp only [List.map_toArray, List.map_cons, List.map_nil]); first | done | rfl | (simp only [List.length_drop, List.length_take]; rfl)) ?_; (with_reducible refine (stolelaw3_awake.calls  false _ (Tabs.below HT.out (by repeat (first | (with_reducible first | exact HB.out | apply below_alloc | apply pw_below_drewN | apply below_drew1) | exact HB.out))) A2.out).mono ?_); rintro e w26 ⟨rfl, hb⟩; refine ⟨_, rfl, ?_⟩; have n0_ := Aside0.mk (below_step (by repeat (first | (with_reducible first | exact HB.out | apply below_alloc | apply pw_below_drewN | apply below_drew1) | exact HB.out)) hb); clear HB; have HB := n0_; clear n0_; (try clear hb); (try clear hb2); (try clear hk); (try clear hi)))
    go_ret
    exact ⟨by first | rfl | (simp [errW_none, errW_some] <;> rfl) | (simp [*, errW_none, errW_some] <;> rfl), by repeat (first | (with_reducible first | exact HB.out | apply below_alloc | apply pw_below_drewN | apply below_drew1) | exact HB.out)⟩

/-- THE ONE PURE STATEMENT of stolelaw3_RealSigns: yours. -/
def stolelaw3_RealSigns.Pure : Prop := ∀ (a0 : Int), (Lit.int .u64 a0).wf = true → ∃ k, stolelaw3_RealSigns.f k a0 = some true
theorem stolelaw3_RealSigns.walk (P : stolelaw3_RealSigns.Pure) (a0 : Int) (w : World) (hT : Tabs w) (w0 : (Lit.int .u64 a0).wf = true) :
    Calls Tryd.prog 6 #[.int .u64 a0] w fun e w' => e = .returned (.bool true) ∧ Below w.heap.size w w' := by
  obtain ⟨k, h⟩ := P a0 w0
  refine (stolelaw3_RealSigns.calls k a0 true w hT h).mono ?_
  rintro e w' ⟨rfl, hd⟩
  exact ⟨rfl, hd⟩

end Go.Proofs.YtpknepalceffgaaDoor.Q
