-- By splice.py, a program of this session's, over the kit's print: a text of this seat's own.
import Derived.Test.YtpknepalceffgaaDoorQ0
import Derived.Test.YtpknepalceffgaaDoorQ2
import Derived.Test.YtpknepalceffgaaDoorRealText
namespace Go.Proofs.YtpknepalceffgaaDoor.Q
open Go.Proofs.YtpknepalceffgaaDoor.Real
open Go.RowKit Go.Proofs.YtpknepalceffgaaDoorW.PrintWords Go.Proofs.YtpknepalceffgaaDoorW.PrintLast Go.Proofs.YtpknepalceffgaaDoorW.PrintMore
attribute [local go_sem] max2_int min2_int max_two min_two max_three min_three max_four min_four   -- for this text's walks alone
set_option linter.unusedVariables false
set_option linter.unusedSimpArgs false

/-! ### stolelaw3_RealKinds: function 7 -/
mutual
def stolelaw3_RealKinds.j0 : Nat → Int → Int → Int → Bool → Option (Bool)
  | 0, _, _, _, _ => none
  | k + 1, x3, x4, x5, x16 => if x16 = true then (some (x5 == 0)) else (if x3 = 2047 then (some (x5 == 1)) else (if x3 = 0 then (stolelaw3_RealKinds.j1 k x3 x4 x5 (x4 == 0)) else (stolelaw3_RealKinds.j1 k x3 x4 x5 false)))
def stolelaw3_RealKinds.j1 : Nat → Int → Int → Int → Bool → Option (Bool)
  | 0, _, _, _, _ => none
  | k + 1, x3, x4, x5, x30 => if x30 = true then (some (x5 == 2)) else (if x3 < 1023 then (stolelaw3_RealKinds.j2 k x3 x4 x5 true) else (stolelaw3_RealKinds.j2 k x3 x4 x5 (decide (x3 > 1075))))
def stolelaw3_RealKinds.j2 : Nat → Int → Int → Int → Bool → Option (Bool)
  | 0, _, _, _, _ => none
  | k + 1, x3, x4, x5, x39 => if x39 = true then (some (x5 == 4)) else (if x3 = 1075 then (some (x5 == 3)) else (if 0 ≤ (IntKind.u64.wrap (1075 - x3)) then (if ((x5 == 3) == ((Go.bits .and .u64 x4 (IntKind.u64.wrap ((shl .u64 1 (IntKind.u64.wrap (1075 - x3))) - 1))) == 0)) = true then (if (Go.bits .and .u64 x4 (IntKind.u64.wrap ((shl .u64 1 (IntKind.u64.wrap (1075 - x3))) - 1))) = 0 then (some true) else (some (x5 == 4))) else (some false)) else (none)))
end
def stolelaw3_RealKinds.f (k : Nat) (a0 : Int) : Option (Bool) := (stolelaw3_awake.f).bind fun t189 => (if t189 = true then ((real_Kind.f a0).bind fun t190 => (if (Go.bits .and .u64 (a0 / 4503599627370496) 2047) = 2047 then (stolelaw3_RealKinds.j0 k (Go.bits .and .u64 (a0 / 4503599627370496) 2047) (Go.bits .and .u64 a0 4503599627370495) t190 ((Go.bits .and .u64 a0 4503599627370495) != 0)) else (stolelaw3_RealKinds.j0 k (Go.bits .and .u64 (a0 / 4503599627370496) 2047) (Go.bits .and .u64 a0 4503599627370495) t190 false))) else (some false))
theorem stolelaw3_RealKinds.mono_l : ∀ k, (∀ y0 y1 y2 y3, LeO (stolelaw3_RealKinds.j0 k y0 y1 y2 y3) (stolelaw3_RealKinds.j0 (k + 1) y0 y1 y2 y3)) ∧ (∀ y0 y1 y2 y3, LeO (stolelaw3_RealKinds.j1 k y0 y1 y2 y3) (stolelaw3_RealKinds.j1 (k + 1) y0 y1 y2 y3)) ∧ (∀ y0 y1 y2 y3, LeO (stolelaw3_RealKinds.j2 k y0 y1 y2 y3) (stolelaw3_RealKinds.j2 (k + 1) y0 y1 y2 y3))
  | 0 => ⟨fun _ _ _ _ r h => by simp [stolelaw3_RealKinds.j0] at h, fun _ _ _ _ r h => by simp [stolelaw3_RealKinds.j1] at h, fun _ _ _ _ r h => by simp [stolelaw3_RealKinds.j2] at h⟩
  | k + 1 => by
    obtain ⟨ih0, ih1, ih2⟩ := stolelaw3_RealKinds.mono_l k
    refine ⟨?_, ?_, ?_⟩
    · intro y0 y1 y2 y3
      unfold stolelaw3_RealKinds.j0
      repeat' first
      | (with_reducible exact ih0 _ _ _ _)
      | (with_reducible exact ih1 _ _ _ _)
      | (with_reducible exact ih2 _ _ _ _)
      | (with_reducible exact LeO.refl _)
      | (with_reducible exact LeO.none _)
      | (with_reducible refine LeO.ite ?_ ?_)
      | (with_reducible refine LeO.bind ?_ (fun _ => ?_))
      | exact ih0 _ _ _ _
      | exact ih1 _ _ _ _
      | exact ih2 _ _ _ _
      | exact LeO.none _
      | refine LeO.ite ?_ ?_
      | refine LeO.bind ?_ (fun _ => ?_)
    · intro y0 y1 y2 y3
      unfold stolelaw3_RealKinds.j1
      repeat' first
      | (with_reducible exact ih0 _ _ _ _)
      | (with_reducible exact ih1 _ _ _ _)
      | (with_reducible exact ih2 _ _ _ _)
      | (with_reducible exact LeO.refl _)
      | (with_reducible exact LeO.none _)
      | (with_reducible refine LeO.ite ?_ ?_)
      | (with_reducible refine LeO.bind ?_ (fun _ => ?_))
      | exact ih0 _ _ _ _
      | exact ih1 _ _ _ _
      | exact ih2 _ _ _ _
      | exact LeO.none _
      | refine LeO.ite ?_ ?_
      | refine LeO.bind ?_ (fun _ => ?_)
    · intro y0 y1 y2 y3
      unfold stolelaw3_RealKinds.j2
      repeat' first
      | (with_reducible exact ih0 _ _ _ _)
      | (with_reducible exact ih1 _ _ _ _)
      | (with_reducible exact ih2 _ _ _ _)
      | (with_reducible exact LeO.refl _)
      | (with_reducible exact LeO.none _)
      | (with_reducible refine LeO.ite ?_ ?_)
      | (with_reducible refine LeO.bind ?_ (fun _ => ?_))
      | exact ih0 _ _ _ _
      | exact ih1 _ _ _ _
      | exact ih2 _ _ _ _
      | exact LeO.none _
      | refine LeO.ite ?_ ?_
      | refine LeO.bind ?_ (fun _ => ?_)
theorem stolelaw3_RealKinds.mono : ∀ a0 k, LeO (stolelaw3_RealKinds.f k a0) (stolelaw3_RealKinds.f (k + 1) a0) := by
  intro a0 k
  obtain ⟨ih0, ih1, ih2⟩ := stolelaw3_RealKinds.mono_l k
  unfold stolelaw3_RealKinds.f
  repeat' first
      | (with_reducible exact ih0 _ _ _ _)
      | (with_reducible exact ih1 _ _ _ _)
      | (with_reducible exact ih2 _ _ _ _)
      | (with_reducible exact LeO.refl _)
      | (with_reducible exact LeO.none _)
      | (with_reducible refine LeO.ite ?_ ?_)
      | (with_reducible refine LeO.bind ?_ (fun _ => ?_))
      | exact ih0 _ _ _ _
      | exact ih1 _ _ _ _
      | exact ih2 _ _ _ _
      | exact LeO.none _
      | refine LeO.ite ?_ ?_
      | refine LeO.bind ?_ (fun _ => ?_)
set_option maxHeartbeats 8000000 in
set_option maxRecDepth 100000 in
theorem stolelaw3_RealKinds.calls (k : Nat) (a0 : Int) (r : Bool) (w : World) (hT : Tabs w) (h : stolelaw3_RealKinds.f k a0 = some r) :
    Calls Tryd.prog 7 #[.int .u64 a0] w fun e w' => e = .returned (.bool r) ∧ Below w.heap.size w w' := by
  have HT := Aside0.mk hT
  clear hT
  have HB := Aside0.mk (Below.refl w.heap.size w)
  have H : ((stolelaw3_awake.f).bind fun t189 => (if t189 = true then ((real_Kind.f a0).bind fun t190 => (if (Go.bits .and .u64 (a0 / 4503599627370496) 2047) = 2047 then (stolelaw3_RealKinds.j0 k (Go.bits .and .u64 (a0 / 4503599627370496) 2047) (Go.bits .and .u64 a0 4503599627370495) t190 ((Go.bits .and .u64 a0 4503599627370495) != 0)) else (stolelaw3_RealKinds.j0 k (Go.bits .and .u64 (a0 / 4503599627370496) 2047) (Go.bits .and .u64 a0 4503599627370495) t190 false))) else (some false))) = some r := h
  clear h
  replace H := Option.bind_eq_some_iff.mp H
  obtain ⟨t189, A20, H⟩ := H
  replace H : (if t189 = true then ((real_Kind.f a0).bind fun t190 => (if (Go.bits .and .u64 (a0 / 4503599627370496) 2047) = 2047 then (stolelaw3_RealKinds.j0 k (Go.bits .and .u64 (a0 / 4503599627370496) 2047) (Go.bits .and .u64 a0 4503599627370495) t190 ((Go.bits .and .u64 a0 4503599627370495) != 0)) else (stolelaw3_RealKinds.j0 k (Go.bits .and .u64 (a0 / 4503599627370496) 2047) (Go.bits .and .u64 a0 4503599627370495) t190 false))) else (some false)) = some r := H
  have A2 := Aside0.mk A20
  clear A20
  by_cases c3 : t189 = true
  · subst c3
    have H1 : ((real_Kind.f a0).bind fun t190 => (if (Go.bits .and .u64 (a0 / 4503599627370496) 2047) = 2047 then (stolelaw3_RealKinds.j0 k (Go.bits .and .u64 (a0 / 4503599627370496) 2047) (Go.bits .and .u64 a0 4503599627370495) t190 ((Go.bits .and .u64 a0 4503599627370495) != 0)) else (stolelaw3_RealKinds.j0 k (Go.bits .and .u64 (a0 / 4503599627370496) 2047) (Go.bits .and .u64 a0 4503599627370495) t190 false))) = some r := by rw [if_pos rfl] at H; exact H
    clear H
    have H := H1
    clear H1
    replace H := Option.bind_eq_some_iff.mp H
    obtain ⟨t190, A40, H⟩ := H
    replace H : (if (Go.bits .and .u64 (a0 / 4503599627370496) 2047) = 2047 then (stolelaw3_RealKinds.j0 k (Go.bits .and .u64 (a0 / 4503599627370496) 2047) (Go.bits .and .u64 a0 4503599627370495) t190 ((Go.bits .and .u64 a0 4503599627370495) != 0)) else (stolelaw3_RealKinds.j0 k (Go.bits .and .u64 (a0 / 4503599627370496) 2047) (Go.bits .and .u64 a0 4503599627370495) t190 false)) = some r := H
    have A4 := Aside0.mk A40
    clear A40
    have HC5 := Aside0.mk H
    clear H
    go_enter Tryd.func7, Tryd.ntmps7
    go_upto_region 5 with (first | ((with_reducible refine gate_callee (f := 14) rfl ?_); refine goesL_ (some 7) rfl rfl Tryd.func14 (by kernel_rfl) rfl #[] rfl (by (try simp only [List.map_toArray, List.map_cons, List.map_nil]); first | done | rfl | (simp only [List.length_drop, List.length_take]; rfl)) ?_; (with_reducible refine (stolelaw3_awake.calls  true _ (Tabs.below HT.out (by repeat (first | (with_reducible first | exact HB.out | apply below_alloc | apply pw_below_drewN | apply below_drew1) | exact HB.out))) A2.out).mono ?_); rintro e w6 ⟨rfl, hb⟩; refine ⟨_, rfl, ?_⟩; have n0_ := Aside0.mk (below_step (by repeat (first | (with_reducible first | exact HB.out | apply below_alloc | apply pw_below_drewN | apply below_drew1) | exact HB.out)) hb); clear HB; have HB := n0_; clear n0_; (try clear hb); (try clear hb2); (try clear hk); (try clear hi)) | ((with_reducible refine gate_callee (f := 10) rfl ?_); refine goesL_ (some 15) rfl rfl Tryd.func10 (by kernel_rfl) rfl #[.int .u64 a0] rfl (by (try simp only [List.map_toArray, List.map_cons, List.map_nil]); first | done | rfl | (simp only [List.length_drop, List.length_take]; rfl)) ?_; (with_reducible refine (real_Kind.calls a0 t190 _ A4.out).mono ?_); rintro e w' ⟨rfl, ⟨nd, rfl⟩⟩; refine ⟨_, rfl, ?_⟩))
    (try simp only [Act.put, List.setIfInBounds_toArray, List.set_cons_zero, List.set_cons_succ])
    go_cut [16] (fun v16 wc => ∃ (kq : Nat) (x16_4 : Bool), v16 = .bool x16_4 ∧ Aside0 (stolelaw3_RealKinds.j0 kq (Go.bits .and .u64 (a0 / 4503599627370496) 2047) (Go.bits .and .u64 a0 4503599627370495) t190 x16_4 = some r) ∧ Aside0 (kq ≤ k) ∧ Aside0 (Below w.heap.size w wc))
    case first =>
      have H := HC5.out
      clear HC5
      by_cases c7 : (Go.bits .and .u64 (a0 / 4503599627370496) 2047) = 2047
      · rw [if_pos c7] at H
        have c7b0 : ((Go.bits .and .u64 (a0 / 4503599627370496) 2047) == 2047) = true := beq_iff_eq.mpr c7
        have c7b1 : ((Go.bits .and .u64 (a0 / 4503599627370496) 2047) != 2047) = false := bne_eq_false_iff_eq.mpr c7
        clear c7
        (first | rw [c7b0] | (simp only [i64_w, i32_w]; rw [c7b0]) | skip)
        have H' := Aside0.mk H
        clear H
        go_wp2
        go_meet
        case rel => exact ⟨_, (((Go.bits .and .u64 a0 4503599627370495) != 0)), (by first | rfl | (simp; done) | (simp [*]; done)), H', ⟨by first | omega | exact Nat.le_refl _⟩, ⟨by repeat (first | (with_reducible first | exact HB.out | apply below_alloc | apply pw_below_drewN | apply below_drew1) | exact HB.out)⟩⟩
      · rw [if_neg c7] at H
        have c7b0 : ((Go.bits .and .u64 (a0 / 4503599627370496) 2047) == 2047) = false := beq_eq_false_iff_ne.mpr c7
        have c7b1 : ((Go.bits .and .u64 (a0 / 4503599627370496) 2047) != 2047) = true := bne_iff_ne.mpr c7
        (first | rw [c7b0] | (simp only [i64_w, i32_w]; rw [c7b0]) | skip)
        have H' := Aside0.mk H
        clear H
        go_wp2
        go_meet
        case rel => exact ⟨_, (false), (by first | rfl | (simp; done) | (simp [*]; done)), H', ⟨by first | omega | exact Nat.le_refl _⟩, ⟨by repeat (first | (with_reducible first | exact HB.out | apply below_alloc | apply pw_below_drewN | apply below_drew1) | exact HB.out)⟩⟩
    case rest =>
      clear HC5
      try clear c1
      try clear p2
      try clear c3
      try clear c7
      try clear c7b0
      try clear c7b1
      obtain ⟨kq, x16_4, rfl, HA, HJ4, HB⟩ := hcut
      cases kq with
      | zero => exact absurd HA.out (by simp [stolelaw3_RealKinds.j0])
      | succ kj4 =>
        have H := HA.out
        clear HA
        simp only [stolelaw3_RealKinds.j0] at H
        by_cases c8 : x16_4 = true
        · subst c8
          have H1 : (some (t190 == 0)) = some r := by rw [if_pos rfl] at H; exact H
          clear H
          have H := H1
          clear H1
          obtain rfl := Option.some.inj H
          go_wp2
          go_ret
          exact ⟨by first | rfl | (simp [errW_none, errW_some] <;> rfl) | (simp [*, errW_none, errW_some] <;> rfl), by repeat (first | (with_reducible first | exact HB.out | apply below_alloc | apply pw_below_drewN | apply below_drew1) | exact HB.out)⟩
        · replace c8 := Bool.eq_false_iff.mpr c8
          subst c8
          have H1 : (if (Go.bits .and .u64 (a0 / 4503599627370496) 2047) = 2047 then (some (t190 == 1)) else (if (Go.bits .and .u64 (a0 / 4503599627370496) 2047) = 0 then (stolelaw3_RealKinds.j1 kj4 (Go.bits .and .u64 (a0 / 4503599627370496) 2047) (Go.bits .and .u64 a0 4503599627370495) t190 ((Go.bits .and .u64 a0 4503599627370495) == 0)) else (stolelaw3_RealKinds.j1 kj4 (Go.bits .and .u64 (a0 / 4503599627370496) 2047) (Go.bits .and .u64 a0 4503599627370495) t190 false))) = some r := by rw [if_neg (show ¬ (false = true) by decide)] at H; exact H
          clear H
          have H := H1
          clear H1
          by_cases c9 : (Go.bits .and .u64 (a0 / 4503599627370496) 2047) = 2047
          · rw [if_pos c9] at H
            have c9b0 : ((Go.bits .and .u64 (a0 / 4503599627370496) 2047) == 2047) = true := beq_iff_eq.mpr c9
            have c9b1 : ((Go.bits .and .u64 (a0 / 4503599627370496) 2047) != 2047) = false := bne_eq_false_iff_eq.mpr c9
            clear c9
            obtain rfl := Option.some.inj H
            go_wp2
            go_ret
            exact ⟨by first | rfl | (simp [errW_none, errW_some] <;> rfl) | (simp [*, errW_none, errW_some] <;> rfl), by repeat (first | (with_reducible first | exact HB.out | apply below_alloc | apply pw_below_drewN | apply below_drew1) | exact HB.out)⟩
          · rw [if_neg c9] at H
            have c9b0 : ((Go.bits .and .u64 (a0 / 4503599627370496) 2047) == 2047) = false := beq_eq_false_iff_ne.mpr c9
            have c9b1 : ((Go.bits .and .u64 (a0 / 4503599627370496) 2047) != 2047) = true := bne_iff_ne.mpr c9
            have HC10 := Aside0.mk H
            clear H
            go_upto_region 9 with (fail)
            go_cut [30] (fun v30 wc => ∃ (kq : Nat) (x30_9 : Bool), v30 = .bool x30_9 ∧ Aside0 (stolelaw3_RealKinds.j1 kq (Go.bits .and .u64 (a0 / 4503599627370496) 2047) (Go.bits .and .u64 a0 4503599627370495) t190 x30_9 = some r) ∧ Aside0 (kq ≤ kj4) ∧ Aside0 (Below w.heap.size w wc))
            case first =>
              have H := HC10.out
              clear HC10
              by_cases c11 : (Go.bits .and .u64 (a0 / 4503599627370496) 2047) = 0
              · rw [if_pos c11] at H
                have c11b0 : ((Go.bits .and .u64 (a0 / 4503599627370496) 2047) == 0) = true := beq_iff_eq.mpr c11
                have c11b1 : ((Go.bits .and .u64 (a0 / 4503599627370496) 2047) != 0) = false := bne_eq_false_iff_eq.mpr c11
                clear c11
                (first | rw [c11b0] | (simp only [i64_w, i32_w]; rw [c11b0]) | skip)
                have H' := Aside0.mk H
                clear H
                go_wp2
                go_meet
                case rel => exact ⟨_, (((Go.bits .and .u64 a0 4503599627370495) == 0)), (by first | rfl | (simp; done) | (simp [*]; done)), H', ⟨by have := HJ4.out; first | omega | exact Nat.le_refl _⟩, ⟨by repeat (first | (with_reducible first | exact HB.out | apply below_alloc | apply pw_below_drewN | apply below_drew1) | exact HB.out)⟩⟩
              · rw [if_neg c11] at H
                have c11b0 : ((Go.bits .and .u64 (a0 / 4503599627370496) 2047) == 0) = false := beq_eq_false_iff_ne.mpr c11
                have c11b1 : ((Go.bits .and .u64 (a0 / 4503599627370496) 2047) != 0) = true := bne_iff_ne.mpr c11
                (first | rw [c11b0] | (simp only [i64_w, i32_w]; rw [c11b0]) | skip)
                have H' := Aside0.mk H
                clear H
                go_wp2
                go_meet
                case rel => exact ⟨_, (false), (by first | rfl | (simp; done) | (simp [*]; done)), H', ⟨by have := HJ4.out; first | omega | exact Nat.le_refl _⟩, ⟨by repeat (first | (with_reducible first | exact HB.out | apply below_alloc | apply pw_below_drewN | apply below_drew1) | exact HB.out)⟩⟩
            case rest =>
              clear HC10
              try clear c1
              try clear p2
              try clear c3
              try clear c7
              try clear c7b0
              try clear c7b1
              try clear c8
              try clear c9
              try clear c9b0
              try clear c9b1
              try clear c10
              try clear c11
              try clear c11b0
              try clear c11b1
              try clear p2
              obtain ⟨kq, x30_9, rfl, HA, HJ9, HB⟩ := hcut
              cases kq with
              | zero => exact absurd HA.out (by simp [stolelaw3_RealKinds.j1])
              | succ kj9 =>
                have H := HA.out
                clear HA
                simp only [stolelaw3_RealKinds.j1] at H
                by_cases c12 : x30_9 = true
                · subst c12
                  have H1 : (some (t190 == 2)) = some r := by rw [if_pos rfl] at H; exact H
                  clear H
                  have H := H1
                  clear H1
                  obtain rfl := Option.some.inj H
                  go_wp2
                  go_ret
                  exact ⟨by first | rfl | (simp [errW_none, errW_some] <;> rfl) | (simp [*, errW_none, errW_some] <;> rfl), by repeat (first | (with_reducible first | exact HB.out | apply below_alloc | apply pw_below_drewN | apply below_drew1) | exact HB.out)⟩
                · replace c12 := Bool.eq_false_iff.mpr c12
                  subst c12
                  have H1 : (if (Go.bits .and .u64 (a0 / 4503599627370496) 2047) < 1023 then (stolelaw3_RealKinds.j2 kj9 (Go.bits .and .u64 (a0 / 4503599627370496) 2047) (Go.bits .and .u64 a0 4503599627370495) t190 true) else (stolelaw3_RealKinds.j2 kj9 (Go.bits .and .u64 (a0 / 4503599627370496) 2047) (Go.bits .and .u64 a0 4503599627370495) t190 (decide ((Go.bits .and .u64 (a0 / 4503599627370496) 2047) > 1075)))) = some r := by rw [if_neg (show ¬ (false = true) by decide)] at H; exact H
                  clear H
                  have H := H1
                  clear H1
                  have HC13 := Aside0.mk H
                  clear H
                  go_upto_region 11 with (fail)
                  go_cut [39] (fun v39 wc => ∃ (kq : Nat) (x39_12 : Bool), v39 = .bool x39_12 ∧ Aside0 (stolelaw3_RealKinds.j2 kq (Go.bits .and .u64 (a0 / 4503599627370496) 2047) (Go.bits .and .u64 a0 4503599627370495) t190 x39_12 = some r) ∧ Aside0 (kq ≤ kj9) ∧ Aside0 (Below w.heap.size w wc))
                  case first =>
                    have H := HC13.out
                    clear HC13
                    by_cases c14 : (Go.bits .and .u64 (a0 / 4503599627370496) 2047) < 1023
                    · rw [if_pos c14] at H
                      have c14b0 : decide ((Go.bits .and .u64 (a0 / 4503599627370496) 2047) < 1023) = true := decide_eq_true c14
                      clear c14
                      (first | rw [c14b0] | (simp only [i64_w, i32_w]; rw [c14b0]) | skip)
                      have H' := Aside0.mk H
                      clear H
                      go_wp2
                      go_meet
                      case rel => exact ⟨_, (true), (by first | rfl | (simp; done) | (simp [*]; done)), H', ⟨by have := HJ4.out; have := HJ9.out; first | omega | exact Nat.le_refl _⟩, ⟨by repeat (first | (with_reducible first | exact HB.out | apply below_alloc | apply pw_below_drewN | apply below_drew1) | exact HB.out)⟩⟩
                    · rw [if_neg c14] at H
                      have c14b0 : decide ((Go.bits .and .u64 (a0 / 4503599627370496) 2047) < 1023) = false := decide_eq_false c14
                      clear c14
                      (first | rw [c14b0] | (simp only [i64_w, i32_w]; rw [c14b0]) | skip)
                      have H' := Aside0.mk H
                      clear H
                      go_wp2
                      go_meet
                      case rel => exact ⟨_, (decide ((Go.bits .and .u64 (a0 / 4503599627370496) 2047) > 1075)), (by first | rfl | (simp; done) | (simp [*]; done)), H', ⟨by have := HJ4.out; have := HJ9.out; first | omega | exact Nat.le_refl _⟩, ⟨by repeat (first | (with_reducible first | exact HB.out | apply below_alloc | apply pw_below_drewN | apply below_drew1) | exact HB.out)⟩⟩
                  case rest =>
                    clear HC13
                    try clear c1
                    try clear p2
                    try clear c3
                    try clear c7
                    try clear c7b0
                    try clear c7b1
                    try clear c8
                    try clear c9
                    try clear c9b0
                    try clear c9b1
                    try clear c10
                    try clear c11
                    try clear c11b0
                    try clear c11b1
                    try clear c12
                    try clear c14
                    try clear c14b0
                    try clear p2
                    obtain ⟨kq, x39_12, rfl, HA, HJ12, HB⟩ := hcut
                    cases kq with
                    | zero => exact absurd HA.out (by simp [stolelaw3_RealKinds.j2])
                    | succ kj12 =>
                      have H := HA.out
                      clear HA
                      simp only [stolelaw3_RealKinds.j2] at H
                      by_cases c15 : x39_12 = true
                      · subst c15
                        have H1 : (some (t190 == 4)) = some r := by rw [if_pos rfl] at H; exact H
                        clear H
                        have H := H1
                        clear H1
                        obtain rfl := Option.some.inj H
                        go_wp2
                        go_ret
                        exact ⟨by first | rfl | (simp [errW_none, errW_some] <;> rfl) | (simp [*, errW_none, errW_some] <;> rfl), by repeat (first | (with_reducible first | exact HB.out | apply below_alloc | apply pw_below_drewN | apply below_drew1) | exact HB.out)⟩
                      · replace c15 := Bool.eq_false_iff.mpr c15
                        subst c15
                        have H1 : (if (Go.bits .and .u64 (a0 / 4503599627370496) 2047) = 1075 then (some (t190 == 3)) else (if 0 ≤ (IntKind.u64.wrap (1075 - (Go.bits .and .u64 (a0 / 4503599627370496) 2047))) then (if ((t190 == 3) == ((Go.bits .and .u64 (Go.bits .and .u64 a0 4503599627370495) (IntKind.u64.wrap ((shl .u64 1 (IntKind.u64.wrap (1075 - (Go.bits .and .u64 (a0 / 4503599627370496) 2047)))) - 1))) == 0)) = true then (if (Go.bits .and .u64 (Go.bits .and .u64 a0 4503599627370495) (IntKind.u64.wrap ((shl .u64 1 (IntKind.u64.wrap (1075 - (Go.bits .and .u64 (a0 / 4503599627370496) 2047)))) - 1))) = 0 then (some true) else (some (t190 == 4))) else (some false)) else (none))) = some r := by rw [if_neg (show ¬ (false = true) by decide)] at H; exact H
                        clear H
                        have H := H1
                        clear H1
                        by_cases c16 : (Go.bits .and .u64 (a0 / 4503599627370496) 2047) = 1075
                        · rw [if_pos c16] at H
                          have c16b0 : ((Go.bits .and .u64 (a0 / 4503599627370496) 2047) == 1075) = true := beq_iff_eq.mpr c16
                          have c16b1 : ((Go.bits .and .u64 (a0 / 4503599627370496) 2047) != 1075) = false := bne_eq_false_iff_eq.mpr c16
                          clear c16
                          obtain rfl := Option.some.inj H
                          go_wp2
                          go_ret
                          exact ⟨by first | rfl | (simp [errW_none, errW_some] <;> rfl) | (simp [*, errW_none, errW_some] <;> rfl), by repeat (first | (with_reducible first | exact HB.out | apply below_alloc | apply pw_below_drewN | apply below_drew1) | exact HB.out)⟩
                        · rw [if_neg c16] at H
                          have c16b0 : ((Go.bits .and .u64 (a0 / 4503599627370496) 2047) == 1075) = false := beq_eq_false_iff_ne.mpr c16
                          have c16b1 : ((Go.bits .and .u64 (a0 / 4503599627370496) 2047) != 1075) = true := bne_iff_ne.mpr c16
                          obtain ⟨ji17, hji17⟩ : ∃ j_ : Int, (IntKind.u64.wrap (1075 - (Go.bits .and .u64 (a0 / 4503599627370496) 2047))) = j_ := ⟨_, rfl⟩
                          replace H : (if 0 ≤ (ji17) then (if ((t190 == 3) == ((Go.bits .and .u64 (Go.bits .and .u64 a0 4503599627370495) (IntKind.u64.wrap ((shl .u64 1 (ji17)) - 1))) == 0)) = true then (if (Go.bits .and .u64 (Go.bits .and .u64 a0 4503599627370495) (IntKind.u64.wrap ((shl .u64 1 (ji17)) - 1))) = 0 then (some true) else (some (t190 == 4))) else (some false)) else (none)) = some r := by first | (rw [hji17] at H; exact H) | (simp only [hji17] at H ⊢; exact H)
                          by_cases c18 : 0 ≤ (ji17)
                          · rw [if_pos c18] at H
                            have c18b0 := eq_true c18
                            have c18b1 : decide (0 ≤ (ji17)) = true := decide_eq_true c18
                            clear c18
                            obtain ⟨ji19, hji19⟩ : ∃ j_ : Int, (shl .u64 1 (ji17)) = j_ := ⟨_, rfl⟩
                            replace H : (if ((t190 == 3) == ((Go.bits .and .u64 (Go.bits .and .u64 a0 4503599627370495) (IntKind.u64.wrap ((ji19) - 1))) == 0)) = true then (if (Go.bits .and .u64 (Go.bits .and .u64 a0 4503599627370495) (IntKind.u64.wrap ((ji19) - 1))) = 0 then (some true) else (some (t190 == 4))) else (some false)) = some r := by first | (rw [hji19] at H; exact H) | (simp only [hji19] at H ⊢; exact H)
                            have hji19_ : (IntKind.u64.wrap (1 * 2 ^ min (ji17).toNat 64)) = ji19 := hji19
                            have hji19z : (ji17) ≤ 64 → (IntKind.u64.wrap (1 * 2 ^ (ji17).toNat)) = ji19 := shl_small hji19
                            have hji19u : (IntKind.u64.wrap (2 ^ min (ji17).toNat 64)) = ji19 := by have h_ := hji19_; rw [Int.one_mul] at h_; exact h_
                            have hji19v : (ji17) ≤ 64 → (IntKind.u64.wrap (2 ^ (ji17).toNat)) = ji19 := fun hle_ => by have h_ := hji19z hle_; rw [Int.one_mul] at h_; exact h_
                            by_cases c20 : ((t190 == 3) == ((Go.bits .and .u64 (Go.bits .and .u64 a0 4503599627370495) (IntKind.u64.wrap ((ji19) - 1))) == 0)) = true
                            · rw [if_pos c20] at H
                              have c20b0 : ((t190 == 3) == ((Go.bits .and .u64 (Go.bits .and .u64 a0 4503599627370495) (IntKind.u64.wrap ((ji19) - 1))) == 0)) = true := c20
                              (try (have c20b1 : decide ((t190 == 3) = ((Go.bits .and .u64 (Go.bits .and .u64 a0 4503599627370495) (IntKind.u64.wrap ((ji19) - 1))) == 0)) = true := by simpa using c20))
                              (try (have c20b2 : ((t190 == 3) == ((Go.bits .and .u64 (Go.bits .and .u64 a0 4503599627370495) (IntKind.u64.wrap ((ji19) - 1))) == 0)) = true := by simpa using c20))
                              clear c20
                              by_cases c21 : (Go.bits .and .u64 (Go.bits .and .u64 a0 4503599627370495) (IntKind.u64.wrap ((ji19) - 1))) = 0
                              · rw [if_pos c21] at H
                                have c21b0 : ((Go.bits .and .u64 (Go.bits .and .u64 a0 4503599627370495) (IntKind.u64.wrap ((ji19) - 1))) == 0) = true := beq_iff_eq.mpr c21
                                have c21b1 : ((Go.bits .and .u64 (Go.bits .and .u64 a0 4503599627370495) (IntKind.u64.wrap ((ji19) - 1))) != 0) = false := bne_eq_false_iff_eq.mpr c21
                                have c20b9 : (t190 == 3) = true := by have h_ := c20b0; rw [c21b0] at h_; simpa using h_
                                clear c21
                                obtain rfl := Option.some.inj H
                                go_wp2
                                go_ret
                                exact ⟨by first | rfl | (simp [errW_none, errW_some] <;> rfl) | (simp only [← hji17, ← hji19]; first | rfl | (simp [errW_none, errW_some] <;> rfl)) | (simp [*, errW_none, errW_some] <;> rfl), by repeat (first | (with_reducible first | exact HB.out | apply below_alloc | apply pw_below_drewN | apply below_drew1) | exact HB.out)⟩
                              · rw [if_neg c21] at H
                                have c21b0 : ((Go.bits .and .u64 (Go.bits .and .u64 a0 4503599627370495) (IntKind.u64.wrap ((ji19) - 1))) == 0) = false := beq_eq_false_iff_ne.mpr c21
                                have c21b1 : ((Go.bits .and .u64 (Go.bits .and .u64 a0 4503599627370495) (IntKind.u64.wrap ((ji19) - 1))) != 0) = true := bne_iff_ne.mpr c21
                                have c20b9 : (t190 == 3) = false := by have h_ := c20b0; rw [c21b0] at h_; simpa using h_
                                obtain rfl := Option.some.inj H
                                go_wp2
                                go_ret
                                exact ⟨by first | rfl | (simp [errW_none, errW_some] <;> rfl) | (simp only [← hji17, ← hji19]; first | rfl | (simp [errW_none, errW_some] <;> rfl)) | (simp [*, errW_none, errW_some] <;> rfl), by repeat (first | (with_reducible first | exact HB.out | apply below_alloc | apply pw_below_drewN | apply below_drew1) | exact HB.out)⟩
                            · rw [if_neg c20] at H
                              have c20b0 : ((t190 == 3) == ((Go.bits .and .u64 (Go.bits .and .u64 a0 4503599627370495) (IntKind.u64.wrap ((ji19) - 1))) == 0)) = false := by simpa using c20
                              (try (have c20b1 : decide ((t190 == 3) = ((Go.bits .and .u64 (Go.bits .and .u64 a0 4503599627370495) (IntKind.u64.wrap ((ji19) - 1))) == 0)) = false := by simpa using c20))
                              (try (have c20b2 : ((t190 == 3) == ((Go.bits .and .u64 (Go.bits .and .u64 a0 4503599627370495) (IntKind.u64.wrap ((ji19) - 1))) == 0)) = false := by simpa using c20))
                              (try (have c20b3 : ¬ ((t190 == 3) = ((Go.bits .and .u64 (Go.bits .and .u64 a0 4503599627370495) (IntKind.u64.wrap ((ji19) - 1))) == 0)) := by simpa using c20))
                              clear c20
                              obtain rfl := Option.some.inj H
                              go_wp2
                              go_ret
                              exact ⟨by first | rfl | (simp [errW_none, errW_some] <;> rfl) | (simp only [← hji17, ← hji19]; first | rfl | (simp [errW_none, errW_some] <;> rfl)) | (simp [*, errW_none, errW_some] <;> rfl), by repeat (first | (with_reducible first | exact HB.out | apply below_alloc | apply pw_below_drewN | apply below_drew1) | exact HB.out)⟩
                          · rw [if_neg c18] at H
                            exact absurd H (by simp)
  · replace c3 := Bool.eq_false_iff.mpr c3
    subst c3
    have H1 : (some false) = some r := by rw [if_neg (show ¬ (false = true) by decide)] at H; exact H
    clear H
    have H := H1
    clear H1
    obtain rfl := Option.some.inj H
    go_enter Tryd.func7, Tryd.ntmps7
    go_wp2_with (first | ((with_reducible refine gate_callee (f := 14) rfl ?_); refine goesL_ (some 7) rfl rfl Tryd.func14 (by kernel_rfl) rfl #[] rfl (by (try simp only [List.map_toArray, List.map_cons, List.map_nil]); first | done | rfl | (simp only [List.length_drop, List.length_take]; rfl)) ?_; (with_reducible refine (stolelaw3_awake.calls  false _ (Tabs.below HT.out (by repeat (first | (with_reducible first | exact HB.out | apply below_alloc | apply pw_below_drewN | apply below_drew1) | exact HB.out))) A2.out).mono ?_); rintro e w22 ⟨rfl, hb⟩; refine ⟨_, rfl, ?_⟩; have n0_ := Aside0.mk (below_step (by repeat (first | (with_reducible first | exact HB.out | apply below_alloc | apply pw_below_drewN | apply below_drew1) | exact HB.out)) hb); clear HB; have HB := n0_; clear n0_; (try clear hb); (try clear hb2); (try clear hk); (try clear hi)))
    go_ret
    exact ⟨by first | rfl | (simp [errW_none, errW_some] <;> rfl) | (simp [*, errW_none, errW_some] <;> rfl), by repeat (first | (with_reducible first | exact HB.out | apply below_alloc | apply pw_below_drewN | apply below_drew1) | exact HB.out)⟩

/-- THE ONE PURE STATEMENT of stolelaw3_RealKinds: yours. -/
def stolelaw3_RealKinds.Pure : Prop := ∀ (a0 : Int), (Lit.int .u64 a0).wf = true → ∃ k, stolelaw3_RealKinds.f k a0 = some true
theorem stolelaw3_RealKinds.walk (P : stolelaw3_RealKinds.Pure) (a0 : Int) (w : World) (hT : Tabs w) (w0 : (Lit.int .u64 a0).wf = true) :
    Calls Tryd.prog 7 #[.int .u64 a0] w fun e w' => e = .returned (.bool true) ∧ Below w.heap.size w w' := by
  obtain ⟨k, h⟩ := P a0 w0
  refine (stolelaw3_RealKinds.calls k a0 true w hT h).mono ?_
  rintro e w' ⟨rfl, hd⟩
  exact ⟨rfl, hd⟩

end Go.Proofs.YtpknepalceffgaaDoor.Q
