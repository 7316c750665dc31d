-- PRINTED BY print.sh 35421559b90ae4d0a3588c463048766b98c2df88dd9212a6774a882060cdf62d: not written by this session
import Derived.Test.YtpknepalceffgaaPStoleNamesx0
import Derived.Test.YtpknepalceffgaaPStoleNamesx1
namespace Go.Proofs.Ytpknepalceffgaa.PStoleNames
open Go.RowKit Go.Proofs.YtpknepalceffgaaW.PrintWords Go.Proofs.YtpknepalceffgaaW.PrintLast Go.Proofs.YtpknepalceffgaaW.PrintMore
attribute [local go_sem] max2_int min2_int max_two min_two max_three min_three max_four min_four   -- for this text's walks alone
set_option linter.unusedVariables false
set_option linter.unusedSimpArgs false

/-! ### stolelaw0_errors4: function 11 -/
def stolelaw0_errors4.f  : Option (Bool) := (stolelaw0_Num.f 2104).bind fun t143 => (if t143 = 2104 then ((stolelaw0_Num.f 2200).bind fun t144 => (if t144 = 2200 then ((stolelaw0_Num.f 2201).bind fun t145 => (if t145 = 2201 then ((stolelaw0_Num.f 2202).bind fun t146 => (if t146 = 2202 then ((stolelaw0_Num.f 2203).bind fun t147 => (if t147 = 2203 then ((stolelaw0_Num.f 2300).bind fun t148 => (if t148 = 2300 then ((stolelaw0_Num.f 2500).bind fun t149 => (if t149 = 2500 then ((stolelaw0_Num.f 2501).bind fun t150 => (some (t150 == 2501))) else (some false))) else (some false))) else (some false))) else (some false))) else (some false))) else (some false))) else (some false))
set_option maxHeartbeats 8000000 in
set_option maxRecDepth 100000 in
theorem stolelaw0_errors4.calls  (r : Bool) (w : World) (h : stolelaw0_errors4.f  = some r) :
    Calls Try.prog 11 #[] w fun e w' => e = .returned (.bool r) ∧ Drawn0 w w' := by
  have H : ((stolelaw0_Num.f 2104).bind fun t143 => (if t143 = 2104 then ((stolelaw0_Num.f 2200).bind fun t144 => (if t144 = 2200 then ((stolelaw0_Num.f 2201).bind fun t145 => (if t145 = 2201 then ((stolelaw0_Num.f 2202).bind fun t146 => (if t146 = 2202 then ((stolelaw0_Num.f 2203).bind fun t147 => (if t147 = 2203 then ((stolelaw0_Num.f 2300).bind fun t148 => (if t148 = 2300 then ((stolelaw0_Num.f 2500).bind fun t149 => (if t149 = 2500 then ((stolelaw0_Num.f 2501).bind fun t150 => (some (t150 == 2501))) else (some false))) else (some false))) else (some false))) else (some false))) else (some false))) else (some false))) else (some false))) = some r := h
  clear h
  replace H := Option.bind_eq_some_iff.mp H
  obtain ⟨t143, A10, H⟩ := H
  replace H : (if t143 = 2104 then ((stolelaw0_Num.f 2200).bind fun t144 => (if t144 = 2200 then ((stolelaw0_Num.f 2201).bind fun t145 => (if t145 = 2201 then ((stolelaw0_Num.f 2202).bind fun t146 => (if t146 = 2202 then ((stolelaw0_Num.f 2203).bind fun t147 => (if t147 = 2203 then ((stolelaw0_Num.f 2300).bind fun t148 => (if t148 = 2300 then ((stolelaw0_Num.f 2500).bind fun t149 => (if t149 = 2500 then ((stolelaw0_Num.f 2501).bind fun t150 => (some (t150 == 2501))) else (some false))) else (some false))) else (some false))) else (some false))) else (some false))) else (some false))) else (some false)) = some r := H
  have A1 := Aside0.mk A10
  clear A10
  by_cases c2 : t143 = 2104
  · rw [if_pos c2] at H
    have c2b0 : (t143 == 2104) = true := beq_iff_eq.mpr c2
    have c2b1 : (t143 != 2104) = false := bne_eq_false_iff_eq.mpr c2
    clear c2
    replace H := Option.bind_eq_some_iff.mp H
    obtain ⟨t144, A30, H⟩ := H
    replace H : (if t144 = 2200 then ((stolelaw0_Num.f 2201).bind fun t145 => (if t145 = 2201 then ((stolelaw0_Num.f 2202).bind fun t146 => (if t146 = 2202 then ((stolelaw0_Num.f 2203).bind fun t147 => (if t147 = 2203 then ((stolelaw0_Num.f 2300).bind fun t148 => (if t148 = 2300 then ((stolelaw0_Num.f 2500).bind fun t149 => (if t149 = 2500 then ((stolelaw0_Num.f 2501).bind fun t150 => (some (t150 == 2501))) else (some false))) else (some false))) else (some false))) else (some false))) else (some false))) else (some false)) = some r := H
    have A3 := Aside0.mk A30
    clear A30
    by_cases c4 : t144 = 2200
    · rw [if_pos c4] at H
      have c4b0 : (t144 == 2200) = true := beq_iff_eq.mpr c4
      have c4b1 : (t144 != 2200) = false := bne_eq_false_iff_eq.mpr c4
      clear c4
      replace H := Option.bind_eq_some_iff.mp H
      obtain ⟨t145, A50, H⟩ := H
      replace H : (if t145 = 2201 then ((stolelaw0_Num.f 2202).bind fun t146 => (if t146 = 2202 then ((stolelaw0_Num.f 2203).bind fun t147 => (if t147 = 2203 then ((stolelaw0_Num.f 2300).bind fun t148 => (if t148 = 2300 then ((stolelaw0_Num.f 2500).bind fun t149 => (if t149 = 2500 then ((stolelaw0_Num.f 2501).bind fun t150 => (some (t150 == 2501))) else (some false))) else (some false))) else (some false))) else (some false))) else (some false)) = some r := H
      have A5 := Aside0.mk A50
      clear A50
      by_cases c6 : t145 = 2201
      · rw [if_pos c6] at H
        have c6b0 : (t145 == 2201) = true := beq_iff_eq.mpr c6
        have c6b1 : (t145 != 2201) = false := bne_eq_false_iff_eq.mpr c6
        clear c6
        replace H := Option.bind_eq_some_iff.mp H
        obtain ⟨t146, A70, H⟩ := H
        replace H : (if t146 = 2202 then ((stolelaw0_Num.f 2203).bind fun t147 => (if t147 = 2203 then ((stolelaw0_Num.f 2300).bind fun t148 => (if t148 = 2300 then ((stolelaw0_Num.f 2500).bind fun t149 => (if t149 = 2500 then ((stolelaw0_Num.f 2501).bind fun t150 => (some (t150 == 2501))) else (some false))) else (some false))) else (some false))) else (some false)) = some r := H
        have A7 := Aside0.mk A70
        clear A70
        by_cases c8 : t146 = 2202
        · rw [if_pos c8] at H
          have c8b0 : (t146 == 2202) = true := beq_iff_eq.mpr c8
          have c8b1 : (t146 != 2202) = false := bne_eq_false_iff_eq.mpr c8
          clear c8
          replace H := Option.bind_eq_some_iff.mp H
          obtain ⟨t147, A90, H⟩ := H
          replace H : (if t147 = 2203 then ((stolelaw0_Num.f 2300).bind fun t148 => (if t148 = 2300 then ((stolelaw0_Num.f 2500).bind fun t149 => (if t149 = 2500 then ((stolelaw0_Num.f 2501).bind fun t150 => (some (t150 == 2501))) else (some false))) else (some false))) else (some false)) = some r := H
          have A9 := Aside0.mk A90
          clear A90
          by_cases c10 : t147 = 2203
          · rw [if_pos c10] at H
            have c10b0 : (t147 == 2203) = true := beq_iff_eq.mpr c10
            have c10b1 : (t147 != 2203) = false := bne_eq_false_iff_eq.mpr c10
            clear c10
            replace H := Option.bind_eq_some_iff.mp H
            obtain ⟨t148, A110, H⟩ := H
            replace H : (if t148 = 2300 then ((stolelaw0_Num.f 2500).bind fun t149 => (if t149 = 2500 then ((stolelaw0_Num.f 2501).bind fun t150 => (some (t150 == 2501))) else (some false))) else (some false)) = some r := H
            have A11 := Aside0.mk A110
            clear A110
            by_cases c12 : t148 = 2300
            · rw [if_pos c12] at H
              have c12b0 : (t148 == 2300) = true := beq_iff_eq.mpr c12
              have c12b1 : (t148 != 2300) = false := bne_eq_false_iff_eq.mpr c12
              clear c12
              replace H := Option.bind_eq_some_iff.mp H
              obtain ⟨t149, A130, H⟩ := H
              replace H : (if t149 = 2500 then ((stolelaw0_Num.f 2501).bind fun t150 => (some (t150 == 2501))) else (some false)) = some r := H
              have A13 := Aside0.mk A130
              clear A130
              by_cases c14 : t149 = 2500
              · rw [if_pos c14] at H
                have c14b0 : (t149 == 2500) = true := beq_iff_eq.mpr c14
                have c14b1 : (t149 != 2500) = false := bne_eq_false_iff_eq.mpr c14
                clear c14
                replace H := Option.bind_eq_some_iff.mp H
                obtain ⟨t150, A150, H⟩ := H
                replace H : (some (t150 == 2501)) = some r := H
                have A15 := Aside0.mk A150
                clear A150
                obtain rfl := Option.some.inj H
                go_enter Try.func11, Try.ntmps11
                go_wp2_with (first | ((with_reducible refine gate_callee (f := 24) rfl ?_); refine goesL_ (some 1) rfl rfl Try.func24 (by kernel_rfl) rfl #[.int .i64 2104] rfl (by (try simp only [List.map_toArray, List.map_cons, List.map_nil]); first | done | rfl | (simp only [List.length_drop, List.length_take]; rfl)) ?_; (with_reducible refine (stolelaw0_Num.calls 2104 t143 _ A1.out).mono ?_); rintro e w' ⟨rfl, ⟨nd, rfl⟩⟩; refine ⟨_, rfl, ?_⟩) | (go_at_call 24; (with_reducible refine (stolelaw0_Num.calls 2200 t144 _ A3.out).mono ?_); rintro e w' ⟨rfl, ⟨nd, rfl⟩⟩) | (go_at_call 24; (with_reducible refine (stolelaw0_Num.calls 2201 t145 _ A5.out).mono ?_); rintro e w' ⟨rfl, ⟨nd, rfl⟩⟩) | (go_at_call 24; (with_reducible refine (stolelaw0_Num.calls 2202 t146 _ A7.out).mono ?_); rintro e w' ⟨rfl, ⟨nd, rfl⟩⟩) | (go_at_call 24; (with_reducible refine (stolelaw0_Num.calls 2203 t147 _ A9.out).mono ?_); rintro e w' ⟨rfl, ⟨nd, rfl⟩⟩) | (go_at_call 24; (with_reducible refine (stolelaw0_Num.calls 2300 t148 _ A11.out).mono ?_); rintro e w' ⟨rfl, ⟨nd, rfl⟩⟩) | (go_at_call 24; (with_reducible refine (stolelaw0_Num.calls 2500 t149 _ A13.out).mono ?_); rintro e w' ⟨rfl, ⟨nd, rfl⟩⟩) | (go_at_call 24; (with_reducible refine (stolelaw0_Num.calls 2501 t150 _ A15.out).mono ?_); rintro e w' ⟨rfl, ⟨nd, rfl⟩⟩))
                go_ret
                exact ⟨by first | rfl | (simp; done) | (simp [*]; done), by repeat (first | exact Drawn0.refl _ | apply Drawn0.step)⟩
              · rw [if_neg c14] at H
                have c14b0 : (t149 == 2500) = false := beq_eq_false_iff_ne.mpr c14
                have c14b1 : (t149 != 2500) = true := bne_iff_ne.mpr c14
                obtain rfl := Option.some.inj H
                go_enter Try.func11, Try.ntmps11
                go_wp2_with (first | ((with_reducible refine gate_callee (f := 24) rfl ?_); refine goesL_ (some 1) rfl rfl Try.func24 (by kernel_rfl) rfl #[.int .i64 2104] rfl (by (try simp only [List.map_toArray, List.map_cons, List.map_nil]); first | done | rfl | (simp only [List.length_drop, List.length_take]; rfl)) ?_; (with_reducible refine (stolelaw0_Num.calls 2104 t143 _ A1.out).mono ?_); rintro e w' ⟨rfl, ⟨nd, rfl⟩⟩; refine ⟨_, rfl, ?_⟩) | (go_at_call 24; (with_reducible refine (stolelaw0_Num.calls 2200 t144 _ A3.out).mono ?_); rintro e w' ⟨rfl, ⟨nd, rfl⟩⟩) | (go_at_call 24; (with_reducible refine (stolelaw0_Num.calls 2201 t145 _ A5.out).mono ?_); rintro e w' ⟨rfl, ⟨nd, rfl⟩⟩) | (go_at_call 24; (with_reducible refine (stolelaw0_Num.calls 2202 t146 _ A7.out).mono ?_); rintro e w' ⟨rfl, ⟨nd, rfl⟩⟩) | (go_at_call 24; (with_reducible refine (stolelaw0_Num.calls 2203 t147 _ A9.out).mono ?_); rintro e w' ⟨rfl, ⟨nd, rfl⟩⟩) | (go_at_call 24; (with_reducible refine (stolelaw0_Num.calls 2300 t148 _ A11.out).mono ?_); rintro e w' ⟨rfl, ⟨nd, rfl⟩⟩) | (go_at_call 24; (with_reducible refine (stolelaw0_Num.calls 2500 t149 _ A13.out).mono ?_); rintro e w' ⟨rfl, ⟨nd, rfl⟩⟩))
                go_ret
                exact ⟨by first | rfl | (simp; done) | (simp [*]; done), by repeat (first | exact Drawn0.refl _ | apply Drawn0.step)⟩
            · rw [if_neg c12] at H
              have c12b0 : (t148 == 2300) = false := beq_eq_false_iff_ne.mpr c12
              have c12b1 : (t148 != 2300) = true := bne_iff_ne.mpr c12
              obtain rfl := Option.some.inj H
              go_enter Try.func11, Try.ntmps11
              go_wp2_with (first | ((with_reducible refine gate_callee (f := 24) rfl ?_); refine goesL_ (some 1) rfl rfl Try.func24 (by kernel_rfl) rfl #[.int .i64 2104] rfl (by (try simp only [List.map_toArray, List.map_cons, List.map_nil]); first | done | rfl | (simp only [List.length_drop, List.length_take]; rfl)) ?_; (with_reducible refine (stolelaw0_Num.calls 2104 t143 _ A1.out).mono ?_); rintro e w' ⟨rfl, ⟨nd, rfl⟩⟩; refine ⟨_, rfl, ?_⟩) | (go_at_call 24; (with_reducible refine (stolelaw0_Num.calls 2200 t144 _ A3.out).mono ?_); rintro e w' ⟨rfl, ⟨nd, rfl⟩⟩) | (go_at_call 24; (with_reducible refine (stolelaw0_Num.calls 2201 t145 _ A5.out).mono ?_); rintro e w' ⟨rfl, ⟨nd, rfl⟩⟩) | (go_at_call 24; (with_reducible refine (stolelaw0_Num.calls 2202 t146 _ A7.out).mono ?_); rintro e w' ⟨rfl, ⟨nd, rfl⟩⟩) | (go_at_call 24; (with_reducible refine (stolelaw0_Num.calls 2203 t147 _ A9.out).mono ?_); rintro e w' ⟨rfl, ⟨nd, rfl⟩⟩) | (go_at_call 24; (with_reducible refine (stolelaw0_Num.calls 2300 t148 _ A11.out).mono ?_); rintro e w' ⟨rfl, ⟨nd, rfl⟩⟩))
              go_ret
              exact ⟨by first | rfl | (simp; done) | (simp [*]; done), by repeat (first | exact Drawn0.refl _ | apply Drawn0.step)⟩
          · rw [if_neg c10] at H
            have c10b0 : (t147 == 2203) = false := beq_eq_false_iff_ne.mpr c10
            have c10b1 : (t147 != 2203) = true := bne_iff_ne.mpr c10
            obtain rfl := Option.some.inj H
            go_enter Try.func11, Try.ntmps11
            go_wp2_with (first | ((with_reducible refine gate_callee (f := 24) rfl ?_); refine goesL_ (some 1) rfl rfl Try.func24 (by kernel_rfl) rfl #[.int .i64 2104] rfl (by (try simp only [List.map_toArray, List.map_cons, List.map_nil]); first | done | rfl | (simp only [List.length_drop, List.length_take]; rfl)) ?_; (with_reducible refine (stolelaw0_Num.calls 2104 t143 _ A1.out).mono ?_); rintro e w' ⟨rfl, ⟨nd, rfl⟩⟩; refine ⟨_, rfl, ?_⟩) | (go_at_call 24; (with_reducible refine (stolelaw0_Num.calls 2200 t144 _ A3.out).mono ?_); rintro e w' ⟨rfl, ⟨nd, rfl⟩⟩) | (go_at_call 24; (with_reducible refine (stolelaw0_Num.calls 2201 t145 _ A5.out).mono ?_); rintro e w' ⟨rfl, ⟨nd, rfl⟩⟩) | (go_at_call 24; (with_reducible refine (stolelaw0_Num.calls 2202 t146 _ A7.out).mono ?_); rintro e w' ⟨rfl, ⟨nd, rfl⟩⟩) | (go_at_call 24; (with_reducible refine (stolelaw0_Num.calls 2203 t147 _ A9.out).mono ?_); rintro e w' ⟨rfl, ⟨nd, rfl⟩⟩))
            go_ret
            exact ⟨by first | rfl | (simp; done) | (simp [*]; done), by repeat (first | exact Drawn0.refl _ | apply Drawn0.step)⟩
        · rw [if_neg c8] at H
          have c8b0 : (t146 == 2202) = false := beq_eq_false_iff_ne.mpr c8
          have c8b1 : (t146 != 2202) = true := bne_iff_ne.mpr c8
          obtain rfl := Option.some.inj H
          go_enter Try.func11, Try.ntmps11
          go_wp2_with (first | ((with_reducible refine gate_callee (f := 24) rfl ?_); refine goesL_ (some 1) rfl rfl Try.func24 (by kernel_rfl) rfl #[.int .i64 2104] rfl (by (try simp only [List.map_toArray, List.map_cons, List.map_nil]); first | done | rfl | (simp only [List.length_drop, List.length_take]; rfl)) ?_; (with_reducible refine (stolelaw0_Num.calls 2104 t143 _ A1.out).mono ?_); rintro e w' ⟨rfl, ⟨nd, rfl⟩⟩; refine ⟨_, rfl, ?_⟩) | (go_at_call 24; (with_reducible refine (stolelaw0_Num.calls 2200 t144 _ A3.out).mono ?_); rintro e w' ⟨rfl, ⟨nd, rfl⟩⟩) | (go_at_call 24; (with_reducible refine (stolelaw0_Num.calls 2201 t145 _ A5.out).mono ?_); rintro e w' ⟨rfl, ⟨nd, rfl⟩⟩) | (go_at_call 24; (with_reducible refine (stolelaw0_Num.calls 2202 t146 _ A7.out).mono ?_); rintro e w' ⟨rfl, ⟨nd, rfl⟩⟩))
          go_ret
          exact ⟨by first | rfl | (simp; done) | (simp [*]; done), by repeat (first | exact Drawn0.refl _ | apply Drawn0.step)⟩
      · rw [if_neg c6] at H
        have c6b0 : (t145 == 2201) = false := beq_eq_false_iff_ne.mpr c6
        have c6b1 : (t145 != 2201) = true := bne_iff_ne.mpr c6
        obtain rfl := Option.some.inj H
        go_enter Try.func11, Try.ntmps11
        go_wp2_with (first | ((with_reducible refine gate_callee (f := 24) rfl ?_); refine goesL_ (some 1) rfl rfl Try.func24 (by kernel_rfl) rfl #[.int .i64 2104] rfl (by (try simp only [List.map_toArray, List.map_cons, List.map_nil]); first | done | rfl | (simp only [List.length_drop, List.length_take]; rfl)) ?_; (with_reducible refine (stolelaw0_Num.calls 2104 t143 _ A1.out).mono ?_); rintro e w' ⟨rfl, ⟨nd, rfl⟩⟩; refine ⟨_, rfl, ?_⟩) | (go_at_call 24; (with_reducible refine (stolelaw0_Num.calls 2200 t144 _ A3.out).mono ?_); rintro e w' ⟨rfl, ⟨nd, rfl⟩⟩) | (go_at_call 24; (with_reducible refine (stolelaw0_Num.calls 2201 t145 _ A5.out).mono ?_); rintro e w' ⟨rfl, ⟨nd, rfl⟩⟩))
        go_ret
        exact ⟨by first | rfl | (simp; done) | (simp [*]; done), by repeat (first | exact Drawn0.refl _ | apply Drawn0.step)⟩
    · rw [if_neg c4] at H
      have c4b0 : (t144 == 2200) = false := beq_eq_false_iff_ne.mpr c4
      have c4b1 : (t144 != 2200) = true := bne_iff_ne.mpr c4
      obtain rfl := Option.some.inj H
      go_enter Try.func11, Try.ntmps11
      go_wp2_with (first | ((with_reducible refine gate_callee (f := 24) rfl ?_); refine goesL_ (some 1) rfl rfl Try.func24 (by kernel_rfl) rfl #[.int .i64 2104] rfl (by (try simp only [List.map_toArray, List.map_cons, List.map_nil]); first | done | rfl | (simp only [List.length_drop, List.length_take]; rfl)) ?_; (with_reducible refine (stolelaw0_Num.calls 2104 t143 _ A1.out).mono ?_); rintro e w' ⟨rfl, ⟨nd, rfl⟩⟩; refine ⟨_, rfl, ?_⟩) | (go_at_call 24; (with_reducible refine (stolelaw0_Num.calls 2200 t144 _ A3.out).mono ?_); rintro e w' ⟨rfl, ⟨nd, rfl⟩⟩))
      go_ret
      exact ⟨by first | rfl | (simp; done) | (simp [*]; done), by repeat (first | exact Drawn0.refl _ | apply Drawn0.step)⟩
  · rw [if_neg c2] at H
    have c2b0 : (t143 == 2104) = false := beq_eq_false_iff_ne.mpr c2
    have c2b1 : (t143 != 2104) = true := bne_iff_ne.mpr c2
    obtain rfl := Option.some.inj H
    go_enter Try.func11, Try.ntmps11
    go_wp2_with (first | ((with_reducible refine gate_callee (f := 24) rfl ?_); refine goesL_ (some 1) rfl rfl Try.func24 (by kernel_rfl) rfl #[.int .i64 2104] rfl (by (try simp only [List.map_toArray, List.map_cons, List.map_nil]); first | done | rfl | (simp only [List.length_drop, List.length_take]; rfl)) ?_; (with_reducible refine (stolelaw0_Num.calls 2104 t143 _ A1.out).mono ?_); rintro e w' ⟨rfl, ⟨nd, rfl⟩⟩; refine ⟨_, rfl, ?_⟩))
    go_ret
    exact ⟨by first | rfl | (simp; done) | (simp [*]; done), by repeat (first | exact Drawn0.refl _ | apply Drawn0.step)⟩

/-! ### stolelaw0_numbers1: function 12 -/
def stolelaw0_numbers1.f  : Option (Bool) := some true
set_option maxHeartbeats 8000000 in
set_option maxRecDepth 100000 in
theorem stolelaw0_numbers1.calls  (r : Bool) (w : World) (h : stolelaw0_numbers1.f  = some r) :
    Calls Try.prog 12 #[] w fun e w' => e = .returned (.bool r) ∧ Drawn0 w w' := by
  have H : (some true) = some r := h
  clear h
  obtain rfl := Option.some.inj H
  go_enter Try.func12, Try.ntmps12
  go_wp2
  go_ret
  exact ⟨by first | rfl | (simp; done) | (simp [*]; done), by repeat (first | exact Drawn0.refl _ | apply Drawn0.step)⟩

/-! ### stolelaw0_numbers2: function 13 -/
def stolelaw0_numbers2.f  : Option (Bool) := some true
set_option maxHeartbeats 8000000 in
set_option maxRecDepth 100000 in
theorem stolelaw0_numbers2.calls  (r : Bool) (w : World) (h : stolelaw0_numbers2.f  = some r) :
    Calls Try.prog 13 #[] w fun e w' => e = .returned (.bool r) ∧ Drawn0 w w' := by
  have H : (some true) = some r := h
  clear h
  obtain rfl := Option.some.inj H
  go_enter Try.func13, Try.ntmps13
  go_wp2
  go_ret
  exact ⟨by first | rfl | (simp; done) | (simp [*]; done), by repeat (first | exact Drawn0.refl _ | apply Drawn0.step)⟩

/-! ### stolelaw0_numbers3: function 14 -/
def stolelaw0_numbers3.f  : Option (Bool) := some true
set_option maxHeartbeats 8000000 in
set_option maxRecDepth 100000 in
theorem stolelaw0_numbers3.calls  (r : Bool) (w : World) (h : stolelaw0_numbers3.f  = some r) :
    Calls Try.prog 14 #[] w fun e w' => e = .returned (.bool r) ∧ Drawn0 w w' := by
  have H : (some true) = some r := h
  clear h
  obtain rfl := Option.some.inj H
  go_enter Try.func14, Try.ntmps14
  go_wp2
  go_ret
  exact ⟨by first | rfl | (simp; done) | (simp [*]; done), by repeat (first | exact Drawn0.refl _ | apply Drawn0.step)⟩

/-! ### stolelaw0_numbers4: function 15 -/
def stolelaw0_numbers4.f  : Option (Bool) := some true
set_option maxHeartbeats 8000000 in
set_option maxRecDepth 100000 in
theorem stolelaw0_numbers4.calls  (r : Bool) (w : World) (h : stolelaw0_numbers4.f  = some r) :
    Calls Try.prog 15 #[] w fun e w' => e = .returned (.bool r) ∧ Drawn0 w w' := by
  have H : (some true) = some r := h
  clear h
  obtain rfl := Option.some.inj H
  go_enter Try.func15, Try.ntmps15
  go_wp2
  go_ret
  exact ⟨by first | rfl | (simp; done) | (simp [*]; done), by repeat (first | exact Drawn0.refl _ | apply Drawn0.step)⟩

/-! ### stolelaw0_numbers5: function 16 -/
def stolelaw0_numbers5.f  : Option (Bool) := some true
set_option maxHeartbeats 8000000 in
set_option maxRecDepth 100000 in
theorem stolelaw0_numbers5.calls  (r : Bool) (w : World) (h : stolelaw0_numbers5.f  = some r) :
    Calls Try.prog 16 #[] w fun e w' => e = .returned (.bool r) ∧ Drawn0 w w' := by
  have H : (some true) = some r := h
  clear h
  obtain rfl := Option.some.inj H
  go_enter Try.func16, Try.ntmps16
  go_wp2
  go_ret
  exact ⟨by first | rfl | (simp; done) | (simp [*]; done), by repeat (first | exact Drawn0.refl _ | apply Drawn0.step)⟩

/-! ### stolelaw0_numbers6: function 17 -/
def stolelaw0_numbers6.f  : Option (Bool) := some true
set_option maxHeartbeats 8000000 in
set_option maxRecDepth 100000 in
theorem stolelaw0_numbers6.calls  (r : Bool) (w : World) (h : stolelaw0_numbers6.f  = some r) :
    Calls Try.prog 17 #[] w fun e w' => e = .returned (.bool r) ∧ Drawn0 w w' := by
  have H : (some true) = some r := h
  clear h
  obtain rfl := Option.some.inj H
  go_enter Try.func17, Try.ntmps17
  go_wp2
  go_ret
  exact ⟨by first | rfl | (simp; done) | (simp [*]; done), by repeat (first | exact Drawn0.refl _ | apply Drawn0.step)⟩

/-! ### stolelaw0_numbers7: function 18 -/
def stolelaw0_numbers7.f  : Option (Bool) := some true
set_option maxHeartbeats 8000000 in
set_option maxRecDepth 100000 in
theorem stolelaw0_numbers7.calls  (r : Bool) (w : World) (h : stolelaw0_numbers7.f  = some r) :
    Calls Try.prog 18 #[] w fun e w' => e = .returned (.bool r) ∧ Drawn0 w w' := by
  have H : (some true) = some r := h
  clear h
  obtain rfl := Option.some.inj H
  go_enter Try.func18, Try.ntmps18
  go_wp2
  go_ret
  exact ⟨by first | rfl | (simp; done) | (simp [*]; done), by repeat (first | exact Drawn0.refl _ | apply Drawn0.step)⟩

/-! ### stolelaw0_numbers8: function 19 -/
def stolelaw0_numbers8.f  : Option (Bool) := some true
set_option maxHeartbeats 8000000 in
set_option maxRecDepth 100000 in
theorem stolelaw0_numbers8.calls  (r : Bool) (w : World) (h : stolelaw0_numbers8.f  = some r) :
    Calls Try.prog 19 #[] w fun e w' => e = .returned (.bool r) ∧ Drawn0 w w' := by
  have H : (some true) = some r := h
  clear h
  obtain rfl := Option.some.inj H
  go_enter Try.func19, Try.ntmps19
  go_wp2
  go_ret
  exact ⟨by first | rfl | (simp; done) | (simp [*]; done), by repeat (first | exact Drawn0.refl _ | apply Drawn0.step)⟩

/-! ### stolelaw0_numbers9: function 20 -/
def stolelaw0_numbers9.f  : Option (Bool) := some true
set_option maxHeartbeats 8000000 in
set_option maxRecDepth 100000 in
theorem stolelaw0_numbers9.calls  (r : Bool) (w : World) (h : stolelaw0_numbers9.f  = some r) :
    Calls Try.prog 20 #[] w fun e w' => e = .returned (.bool r) ∧ Drawn0 w w' := by
  have H : (some true) = some r := h
  clear h
  obtain rfl := Option.some.inj H
  go_enter Try.func20, Try.ntmps20
  go_wp2
  go_ret
  exact ⟨by first | rfl | (simp; done) | (simp [*]; done), by repeat (first | exact Drawn0.refl _ | apply Drawn0.step)⟩

/-! ### stolelaw0_StoleNames: function 3 -/
def stolelaw0_StoleNames.f  : Option (Bool) := (stolelaw0_errors1.f).bind fun t151 => (if t151 = true then ((stolelaw0_errors2.f).bind fun t152 => (if t152 = true then ((stolelaw0_errors3.f).bind fun t153 => (if t153 = true then ((stolelaw0_errors4.f).bind fun t154 => (if t154 = true then ((stolelaw0_numbers1.f).bind fun t155 => (if t155 = true then ((stolelaw0_numbers2.f).bind fun t156 => (if t156 = true then ((stolelaw0_numbers3.f).bind fun t157 => (if t157 = true then ((stolelaw0_numbers4.f).bind fun t158 => (if t158 = true then ((stolelaw0_numbers5.f).bind fun t159 => (if t159 = true then ((stolelaw0_numbers6.f).bind fun t160 => (if t160 = true then ((stolelaw0_numbers7.f).bind fun t161 => (if t161 = true then ((stolelaw0_numbers8.f).bind fun t162 => (if t162 = true then ((stolelaw0_numbers9.f).bind fun t163 => (some t163)) else (some false))) else (some false))) else (some false))) else (some false))) else (some false))) else (some false))) else (some false))) else (some false))) else (some false))) else (some false))) else (some false))) else (some false))
set_option maxHeartbeats 8000000 in
set_option maxRecDepth 100000 in
theorem stolelaw0_StoleNames.calls  (r : Bool) (w : World) (h : stolelaw0_StoleNames.f  = some r) :
    Calls Try.prog 3 #[] w fun e w' => e = .returned (.bool r) ∧ Drawn0 w w' := by
  have H : ((stolelaw0_errors1.f).bind fun t151 => (if t151 = true then ((stolelaw0_errors2.f).bind fun t152 => (if t152 = true then ((stolelaw0_errors3.f).bind fun t153 => (if t153 = true then ((stolelaw0_errors4.f).bind fun t154 => (if t154 = true then ((stolelaw0_numbers1.f).bind fun t155 => (if t155 = true then ((stolelaw0_numbers2.f).bind fun t156 => (if t156 = true then ((stolelaw0_numbers3.f).bind fun t157 => (if t157 = true then ((stolelaw0_numbers4.f).bind fun t158 => (if t158 = true then ((stolelaw0_numbers5.f).bind fun t159 => (if t159 = true then ((stolelaw0_numbers6.f).bind fun t160 => (if t160 = true then ((stolelaw0_numbers7.f).bind fun t161 => (if t161 = true then ((stolelaw0_numbers8.f).bind fun t162 => (if t162 = true then ((stolelaw0_numbers9.f).bind fun t163 => (some t163)) else (some false))) else (some false))) else (some false))) else (some false))) else (some false))) else (some false))) else (some false))) else (some false))) else (some false))) else (some false))) else (some false))) else (some false))) = some r := h
  clear h
  replace H := Option.bind_eq_some_iff.mp H
  obtain ⟨t151, A10, H⟩ := H
  replace H : (if t151 = true then ((stolelaw0_errors2.f).bind fun t152 => (if t152 = true then ((stolelaw0_errors3.f).bind fun t153 => (if t153 = true then ((stolelaw0_errors4.f).bind fun t154 => (if t154 = true then ((stolelaw0_numbers1.f).bind fun t155 => (if t155 = true then ((stolelaw0_numbers2.f).bind fun t156 => (if t156 = true then ((stolelaw0_numbers3.f).bind fun t157 => (if t157 = true then ((stolelaw0_numbers4.f).bind fun t158 => (if t158 = true then ((stolelaw0_numbers5.f).bind fun t159 => (if t159 = true then ((stolelaw0_numbers6.f).bind fun t160 => (if t160 = true then ((stolelaw0_numbers7.f).bind fun t161 => (if t161 = true then ((stolelaw0_numbers8.f).bind fun t162 => (if t162 = true then ((stolelaw0_numbers9.f).bind fun t163 => (some t163)) else (some false))) else (some false))) else (some false))) else (some false))) else (some false))) else (some false))) else (some false))) else (some false))) else (some false))) else (some false))) else (some false))) else (some false)) = some r := H
  have A1 := Aside0.mk A10
  clear A10
  by_cases c2 : t151 = true
  · subst c2
    have H1 : ((stolelaw0_errors2.f).bind fun t152 => (if t152 = true then ((stolelaw0_errors3.f).bind fun t153 => (if t153 = true then ((stolelaw0_errors4.f).bind fun t154 => (if t154 = true then ((stolelaw0_numbers1.f).bind fun t155 => (if t155 = true then ((stolelaw0_numbers2.f).bind fun t156 => (if t156 = true then ((stolelaw0_numbers3.f).bind fun t157 => (if t157 = true then ((stolelaw0_numbers4.f).bind fun t158 => (if t158 = true then ((stolelaw0_numbers5.f).bind fun t159 => (if t159 = true then ((stolelaw0_numbers6.f).bind fun t160 => (if t160 = true then ((stolelaw0_numbers7.f).bind fun t161 => (if t161 = true then ((stolelaw0_numbers8.f).bind fun t162 => (if t162 = true then ((stolelaw0_numbers9.f).bind fun t163 => (some t163)) else (some false))) else (some false))) else (some false))) else (some false))) else (some false))) else (some false))) else (some false))) else (some false))) else (some false))) else (some false))) else (some false))) = some r := by rw [if_pos rfl] at H; exact H
    clear H
    have H := H1
    clear H1
    replace H := Option.bind_eq_some_iff.mp H
    obtain ⟨t152, A30, H⟩ := H
    replace H : (if t152 = true then ((stolelaw0_errors3.f).bind fun t153 => (if t153 = true then ((stolelaw0_errors4.f).bind fun t154 => (if t154 = true then ((stolelaw0_numbers1.f).bind fun t155 => (if t155 = true then ((stolelaw0_numbers2.f).bind fun t156 => (if t156 = true then ((stolelaw0_numbers3.f).bind fun t157 => (if t157 = true then ((stolelaw0_numbers4.f).bind fun t158 => (if t158 = true then ((stolelaw0_numbers5.f).bind fun t159 => (if t159 = true then ((stolelaw0_numbers6.f).bind fun t160 => (if t160 = true then ((stolelaw0_numbers7.f).bind fun t161 => (if t161 = true then ((stolelaw0_numbers8.f).bind fun t162 => (if t162 = true then ((stolelaw0_numbers9.f).bind fun t163 => (some t163)) else (some false))) else (some false))) else (some false))) else (some false))) else (some false))) else (some false))) else (some false))) else (some false))) else (some false))) else (some false))) else (some false)) = some r := H
    have A3 := Aside0.mk A30
    clear A30
    by_cases c4 : t152 = true
    · subst c4
      have H1 : ((stolelaw0_errors3.f).bind fun t153 => (if t153 = true then ((stolelaw0_errors4.f).bind fun t154 => (if t154 = true then ((stolelaw0_numbers1.f).bind fun t155 => (if t155 = true then ((stolelaw0_numbers2.f).bind fun t156 => (if t156 = true then ((stolelaw0_numbers3.f).bind fun t157 => (if t157 = true then ((stolelaw0_numbers4.f).bind fun t158 => (if t158 = true then ((stolelaw0_numbers5.f).bind fun t159 => (if t159 = true then ((stolelaw0_numbers6.f).bind fun t160 => (if t160 = true then ((stolelaw0_numbers7.f).bind fun t161 => (if t161 = true then ((stolelaw0_numbers8.f).bind fun t162 => (if t162 = true then ((stolelaw0_numbers9.f).bind fun t163 => (some t163)) else (some false))) else (some false))) else (some false))) else (some false))) else (some false))) else (some false))) else (some false))) else (some false))) else (some false))) else (some false))) = some r := by rw [if_pos rfl] at H; exact H
      clear H
      have H := H1
      clear H1
      replace H := Option.bind_eq_some_iff.mp H
      obtain ⟨t153, A50, H⟩ := H
      replace H : (if t153 = true then ((stolelaw0_errors4.f).bind fun t154 => (if t154 = true then ((stolelaw0_numbers1.f).bind fun t155 => (if t155 = true then ((stolelaw0_numbers2.f).bind fun t156 => (if t156 = true then ((stolelaw0_numbers3.f).bind fun t157 => (if t157 = true then ((stolelaw0_numbers4.f).bind fun t158 => (if t158 = true then ((stolelaw0_numbers5.f).bind fun t159 => (if t159 = true then ((stolelaw0_numbers6.f).bind fun t160 => (if t160 = true then ((stolelaw0_numbers7.f).bind fun t161 => (if t161 = true then ((stolelaw0_numbers8.f).bind fun t162 => (if t162 = true then ((stolelaw0_numbers9.f).bind fun t163 => (some t163)) else (some false))) else (some false))) else (some false))) else (some false))) else (some false))) else (some false))) else (some false))) else (some false))) else (some false))) else (some false)) = some r := H
      have A5 := Aside0.mk A50
      clear A50
      by_cases c6 : t153 = true
      · subst c6
        have H1 : ((stolelaw0_errors4.f).bind fun t154 => (if t154 = true then ((stolelaw0_numbers1.f).bind fun t155 => (if t155 = true then ((stolelaw0_numbers2.f).bind fun t156 => (if t156 = true then ((stolelaw0_numbers3.f).bind fun t157 => (if t157 = true then ((stolelaw0_numbers4.f).bind fun t158 => (if t158 = true then ((stolelaw0_numbers5.f).bind fun t159 => (if t159 = true then ((stolelaw0_numbers6.f).bind fun t160 => (if t160 = true then ((stolelaw0_numbers7.f).bind fun t161 => (if t161 = true then ((stolelaw0_numbers8.f).bind fun t162 => (if t162 = true then ((stolelaw0_numbers9.f).bind fun t163 => (some t163)) else (some false))) else (some false))) else (some false))) else (some false))) else (some false))) else (some false))) else (some false))) else (some false))) else (some false))) = some r := by rw [if_pos rfl] at H; exact H
        clear H
        have H := H1
        clear H1
        replace H := Option.bind_eq_some_iff.mp H
        obtain ⟨t154, A70, H⟩ := H
        replace H : (if t154 = true then ((stolelaw0_numbers1.f).bind fun t155 => (if t155 = true then ((stolelaw0_numbers2.f).bind fun t156 => (if t156 = true then ((stolelaw0_numbers3.f).bind fun t157 => (if t157 = true then ((stolelaw0_numbers4.f).bind fun t158 => (if t158 = true then ((stolelaw0_numbers5.f).bind fun t159 => (if t159 = true then ((stolelaw0_numbers6.f).bind fun t160 => (if t160 = true then ((stolelaw0_numbers7.f).bind fun t161 => (if t161 = true then ((stolelaw0_numbers8.f).bind fun t162 => (if t162 = true then ((stolelaw0_numbers9.f).bind fun t163 => (some t163)) else (some false))) else (some false))) else (some false))) else (some false))) else (some false))) else (some false))) else (some false))) else (some false))) else (some false)) = some r := H
        have A7 := Aside0.mk A70
        clear A70
        by_cases c8 : t154 = true
        · subst c8
          have H1 : ((stolelaw0_numbers1.f).bind fun t155 => (if t155 = true then ((stolelaw0_numbers2.f).bind fun t156 => (if t156 = true then ((stolelaw0_numbers3.f).bind fun t157 => (if t157 = true then ((stolelaw0_numbers4.f).bind fun t158 => (if t158 = true then ((stolelaw0_numbers5.f).bind fun t159 => (if t159 = true then ((stolelaw0_numbers6.f).bind fun t160 => (if t160 = true then ((stolelaw0_numbers7.f).bind fun t161 => (if t161 = true then ((stolelaw0_numbers8.f).bind fun t162 => (if t162 = true then ((stolelaw0_numbers9.f).bind fun t163 => (some t163)) else (some false))) else (some false))) else (some false))) else (some false))) else (some false))) else (some false))) else (some false))) else (some false))) = some r := by rw [if_pos rfl] at H; exact H
          clear H
          have H := H1
          clear H1
          replace H := Option.bind_eq_some_iff.mp H
          obtain ⟨t155, A90, H⟩ := H
          replace H : (if t155 = true then ((stolelaw0_numbers2.f).bind fun t156 => (if t156 = true then ((stolelaw0_numbers3.f).bind fun t157 => (if t157 = true then ((stolelaw0_numbers4.f).bind fun t158 => (if t158 = true then ((stolelaw0_numbers5.f).bind fun t159 => (if t159 = true then ((stolelaw0_numbers6.f).bind fun t160 => (if t160 = true then ((stolelaw0_numbers7.f).bind fun t161 => (if t161 = true then ((stolelaw0_numbers8.f).bind fun t162 => (if t162 = true then ((stolelaw0_numbers9.f).bind fun t163 => (some t163)) else (some false))) else (some false))) else (some false))) else (some false))) else (some false))) else (some false))) else (some false))) else (some false)) = some r := H
          have A9 := Aside0.mk A90
          clear A90
          by_cases c10 : t155 = true
          · subst c10
            have H1 : ((stolelaw0_numbers2.f).bind fun t156 => (if t156 = true then ((stolelaw0_numbers3.f).bind fun t157 => (if t157 = true then ((stolelaw0_numbers4.f).bind fun t158 => (if t158 = true then ((stolelaw0_numbers5.f).bind fun t159 => (if t159 = true then ((stolelaw0_numbers6.f).bind fun t160 => (if t160 = true then ((stolelaw0_numbers7.f).bind fun t161 => (if t161 = true then ((stolelaw0_numbers8.f).bind fun t162 => (if t162 = true then ((stolelaw0_numbers9.f).bind fun t163 => (some t163)) else (some false))) else (some false))) else (some false))) else (some false))) else (some false))) else (some false))) else (some false))) = some r := by rw [if_pos rfl] at H; exact H
            clear H
            have H := H1
            clear H1
            replace H := Option.bind_eq_some_iff.mp H
            obtain ⟨t156, A110, H⟩ := H
            replace H : (if t156 = true then ((stolelaw0_numbers3.f).bind fun t157 => (if t157 = true then ((stolelaw0_numbers4.f).bind fun t158 => (if t158 = true then ((stolelaw0_numbers5.f).bind fun t159 => (if t159 = true then ((stolelaw0_numbers6.f).bind fun t160 => (if t160 = true then ((stolelaw0_numbers7.f).bind fun t161 => (if t161 = true then ((stolelaw0_numbers8.f).bind fun t162 => (if t162 = true then ((stolelaw0_numbers9.f).bind fun t163 => (some t163)) else (some false))) else (some false))) else (some false))) else (some false))) else (some false))) else (some false))) else (some false)) = some r := H
            have A11 := Aside0.mk A110
            clear A110
            by_cases c12 : t156 = true
            · subst c12
              have H1 : ((stolelaw0_numbers3.f).bind fun t157 => (if t157 = true then ((stolelaw0_numbers4.f).bind fun t158 => (if t158 = true then ((stolelaw0_numbers5.f).bind fun t159 => (if t159 = true then ((stolelaw0_numbers6.f).bind fun t160 => (if t160 = true then ((stolelaw0_numbers7.f).bind fun t161 => (if t161 = true then ((stolelaw0_numbers8.f).bind fun t162 => (if t162 = true then ((stolelaw0_numbers9.f).bind fun t163 => (some t163)) else (some false))) else (some false))) else (some false))) else (some false))) else (some false))) else (some false))) = some r := by rw [if_pos rfl] at H; exact H
              clear H
              have H := H1
              clear H1
              replace H := Option.bind_eq_some_iff.mp H
              obtain ⟨t157, A130, H⟩ := H
              replace H : (if t157 = true then ((stolelaw0_numbers4.f).bind fun t158 => (if t158 = true then ((stolelaw0_numbers5.f).bind fun t159 => (if t159 = true then ((stolelaw0_numbers6.f).bind fun t160 => (if t160 = true then ((stolelaw0_numbers7.f).bind fun t161 => (if t161 = true then ((stolelaw0_numbers8.f).bind fun t162 => (if t162 = true then ((stolelaw0_numbers9.f).bind fun t163 => (some t163)) else (some false))) else (some false))) else (some false))) else (some false))) else (some false))) else (some false)) = some r := H
              have A13 := Aside0.mk A130
              clear A130
              by_cases c14 : t157 = true
              · subst c14
                have H1 : ((stolelaw0_numbers4.f).bind fun t158 => (if t158 = true then ((stolelaw0_numbers5.f).bind fun t159 => (if t159 = true then ((stolelaw0_numbers6.f).bind fun t160 => (if t160 = true then ((stolelaw0_numbers7.f).bind fun t161 => (if t161 = true then ((stolelaw0_numbers8.f).bind fun t162 => (if t162 = true then ((stolelaw0_numbers9.f).bind fun t163 => (some t163)) else (some false))) else (some false))) else (some false))) else (some false))) else (some false))) = some r := by rw [if_pos rfl] at H; exact H
                clear H
                have H := H1
                clear H1
                replace H := Option.bind_eq_some_iff.mp H
                obtain ⟨t158, A150, H⟩ := H
                replace H : (if t158 = true then ((stolelaw0_numbers5.f).bind fun t159 => (if t159 = true then ((stolelaw0_numbers6.f).bind fun t160 => (if t160 = true then ((stolelaw0_numbers7.f).bind fun t161 => (if t161 = true then ((stolelaw0_numbers8.f).bind fun t162 => (if t162 = true then ((stolelaw0_numbers9.f).bind fun t163 => (some t163)) else (some false))) else (some false))) else (some false))) else (some false))) else (some false)) = some r := H
                have A15 := Aside0.mk A150
                clear A150
                by_cases c16 : t158 = true
                · subst c16
                  have H1 : ((stolelaw0_numbers5.f).bind fun t159 => (if t159 = true then ((stolelaw0_numbers6.f).bind fun t160 => (if t160 = true then ((stolelaw0_numbers7.f).bind fun t161 => (if t161 = true then ((stolelaw0_numbers8.f).bind fun t162 => (if t162 = true then ((stolelaw0_numbers9.f).bind fun t163 => (some t163)) else (some false))) else (some false))) else (some false))) else (some false))) = some r := by rw [if_pos rfl] at H; exact H
                  clear H
                  have H := H1
                  clear H1
                  replace H := Option.bind_eq_some_iff.mp H
                  obtain ⟨t159, A170, H⟩ := H
                  replace H : (if t159 = true then ((stolelaw0_numbers6.f).bind fun t160 => (if t160 = true then ((stolelaw0_numbers7.f).bind fun t161 => (if t161 = true then ((stolelaw0_numbers8.f).bind fun t162 => (if t162 = true then ((stolelaw0_numbers9.f).bind fun t163 => (some t163)) else (some false))) else (some false))) else (some false))) else (some false)) = some r := H
                  have A17 := Aside0.mk A170
                  clear A170
                  by_cases c18 : t159 = true
                  · subst c18
                    have H1 : ((stolelaw0_numbers6.f).bind fun t160 => (if t160 = true then ((stolelaw0_numbers7.f).bind fun t161 => (if t161 = true then ((stolelaw0_numbers8.f).bind fun t162 => (if t162 = true then ((stolelaw0_numbers9.f).bind fun t163 => (some t163)) else (some false))) else (some false))) else (some false))) = some r := by rw [if_pos rfl] at H; exact H
                    clear H
                    have H := H1
                    clear H1
                    replace H := Option.bind_eq_some_iff.mp H
                    obtain ⟨t160, A190, H⟩ := H
                    replace H : (if t160 = true then ((stolelaw0_numbers7.f).bind fun t161 => (if t161 = true then ((stolelaw0_numbers8.f).bind fun t162 => (if t162 = true then ((stolelaw0_numbers9.f).bind fun t163 => (some t163)) else (some false))) else (some false))) else (some false)) = some r := H
                    have A19 := Aside0.mk A190
                    clear A190
                    by_cases c20 : t160 = true
                    · subst c20
                      have H1 : ((stolelaw0_numbers7.f).bind fun t161 => (if t161 = true then ((stolelaw0_numbers8.f).bind fun t162 => (if t162 = true then ((stolelaw0_numbers9.f).bind fun t163 => (some t163)) else (some false))) else (some false))) = some r := by rw [if_pos rfl] at H; exact H
                      clear H
                      have H := H1
                      clear H1
                      replace H := Option.bind_eq_some_iff.mp H
                      obtain ⟨t161, A210, H⟩ := H
                      replace H : (if t161 = true then ((stolelaw0_numbers8.f).bind fun t162 => (if t162 = true then ((stolelaw0_numbers9.f).bind fun t163 => (some t163)) else (some false))) else (some false)) = some r := H
                      have A21 := Aside0.mk A210
                      clear A210
                      by_cases c22 : t161 = true
                      · subst c22
                        have H1 : ((stolelaw0_numbers8.f).bind fun t162 => (if t162 = true then ((stolelaw0_numbers9.f).bind fun t163 => (some t163)) else (some false))) = some r := by rw [if_pos rfl] at H; exact H
                        clear H
                        have H := H1
                        clear H1
                        replace H := Option.bind_eq_some_iff.mp H
                        obtain ⟨t162, A230, H⟩ := H
                        replace H : (if t162 = true then ((stolelaw0_numbers9.f).bind fun t163 => (some t163)) else (some false)) = some r := H
                        have A23 := Aside0.mk A230
                        clear A230
                        by_cases c24 : t162 = true
                        · subst c24
                          have H1 : ((stolelaw0_numbers9.f).bind fun t163 => (some t163)) = some r := by rw [if_pos rfl] at H; exact H
                          clear H
                          have H := H1
                          clear H1
                          replace H := Option.bind_eq_some_iff.mp H
                          obtain ⟨t163, A250, H⟩ := H
                          replace H : (some t163) = some r := H
                          have A25 := Aside0.mk A250
                          clear A250
                          obtain rfl := Option.some.inj H
                          go_enter Try.func3, Try.ntmps3
                          go_wp2_with (first | ((with_reducible refine gate_callee (f := 8) rfl ?_); refine goesL_ (some 1) rfl rfl Try.func8 (by kernel_rfl) rfl #[] rfl (by (try simp only [List.map_toArray, List.map_cons, List.map_nil]); first | done | rfl | (simp only [List.length_drop, List.length_take]; rfl)) ?_; (with_reducible refine (stolelaw0_errors1.calls  true _ A1.out).mono ?_); rintro e w' ⟨rfl, ⟨nd, rfl⟩⟩; refine ⟨_, rfl, ?_⟩) | (go_at_call 9; (with_reducible refine (stolelaw0_errors2.calls  true _ A3.out).mono ?_); rintro e w' ⟨rfl, ⟨nd, rfl⟩⟩) | (go_at_call 10; (with_reducible refine (stolelaw0_errors3.calls  true _ A5.out).mono ?_); rintro e w' ⟨rfl, ⟨nd, rfl⟩⟩) | (go_at_call 11; (with_reducible refine (stolelaw0_errors4.calls  true _ A7.out).mono ?_); rintro e w' ⟨rfl, ⟨nd, rfl⟩⟩) | (go_at_call 12; (with_reducible refine (stolelaw0_numbers1.calls  true _ A9.out).mono ?_); rintro e w' ⟨rfl, ⟨nd, rfl⟩⟩) | (go_at_call 13; (with_reducible refine (stolelaw0_numbers2.calls  true _ A11.out).mono ?_); rintro e w' ⟨rfl, ⟨nd, rfl⟩⟩) | (go_at_call 14; (with_reducible refine (stolelaw0_numbers3.calls  true _ A13.out).mono ?_); rintro e w' ⟨rfl, ⟨nd, rfl⟩⟩) | (go_at_call 15; (with_reducible refine (stolelaw0_numbers4.calls  true _ A15.out).mono ?_); rintro e w' ⟨rfl, ⟨nd, rfl⟩⟩) | (go_at_call 16; (with_reducible refine (stolelaw0_numbers5.calls  true _ A17.out).mono ?_); rintro e w' ⟨rfl, ⟨nd, rfl⟩⟩) | (go_at_call 17; (with_reducible refine (stolelaw0_numbers6.calls  true _ A19.out).mono ?_); rintro e w' ⟨rfl, ⟨nd, rfl⟩⟩) | (go_at_call 18; (with_reducible refine (stolelaw0_numbers7.calls  true _ A21.out).mono ?_); rintro e w' ⟨rfl, ⟨nd, rfl⟩⟩) | (go_at_call 19; (with_reducible refine (stolelaw0_numbers8.calls  true _ A23.out).mono ?_); rintro e w' ⟨rfl, ⟨nd, rfl⟩⟩) | (go_at_call 20; (with_reducible refine (stolelaw0_numbers9.calls  t163 _ A25.out).mono ?_); rintro e w' ⟨rfl, ⟨nd, rfl⟩⟩))
                          go_ret
                          exact ⟨by first | rfl | (simp; done) | (simp [*]; done), by repeat (first | exact Drawn0.refl _ | apply Drawn0.step)⟩
                        · replace c24 := Bool.eq_false_iff.mpr c24
                          subst c24
                          have H1 : (some false) = some r := by rw [if_neg (show ¬ (false = true) by decide)] at H; exact H
                          clear H
                          have H := H1
                          clear H1
                          obtain rfl := Option.some.inj H
                          go_enter Try.func3, Try.ntmps3
                          go_wp2_with (first | ((with_reducible refine gate_callee (f := 8) rfl ?_); refine goesL_ (some 1) rfl rfl Try.func8 (by kernel_rfl) rfl #[] rfl (by (try simp only [List.map_toArray, List.map_cons, List.map_nil]); first | done | rfl | (simp only [List.length_drop, List.length_take]; rfl)) ?_; (with_reducible refine (stolelaw0_errors1.calls  true _ A1.out).mono ?_); rintro e w' ⟨rfl, ⟨nd, rfl⟩⟩; refine ⟨_, rfl, ?_⟩) | (go_at_call 9; (with_reducible refine (stolelaw0_errors2.calls  true _ A3.out).mono ?_); rintro e w' ⟨rfl, ⟨nd, rfl⟩⟩) | (go_at_call 10; (with_reducible refine (stolelaw0_errors3.calls  true _ A5.out).mono ?_); rintro e w' ⟨rfl, ⟨nd, rfl⟩⟩) | (go_at_call 11; (with_reducible refine (stolelaw0_errors4.calls  true _ A7.out).mono ?_); rintro e w' ⟨rfl, ⟨nd, rfl⟩⟩) | (go_at_call 12; (with_reducible refine (stolelaw0_numbers1.calls  true _ A9.out).mono ?_); rintro e w' ⟨rfl, ⟨nd, rfl⟩⟩) | (go_at_call 13; (with_reducible refine (stolelaw0_numbers2.calls  true _ A11.out).mono ?_); rintro e w' ⟨rfl, ⟨nd, rfl⟩⟩) | (go_at_call 14; (with_reducible refine (stolelaw0_numbers3.calls  true _ A13.out).mono ?_); rintro e w' ⟨rfl, ⟨nd, rfl⟩⟩) | (go_at_call 15; (with_reducible refine (stolelaw0_numbers4.calls  true _ A15.out).mono ?_); rintro e w' ⟨rfl, ⟨nd, rfl⟩⟩) | (go_at_call 16; (with_reducible refine (stolelaw0_numbers5.calls  true _ A17.out).mono ?_); rintro e w' ⟨rfl, ⟨nd, rfl⟩⟩) | (go_at_call 17; (with_reducible refine (stolelaw0_numbers6.calls  true _ A19.out).mono ?_); rintro e w' ⟨rfl, ⟨nd, rfl⟩⟩) | (go_at_call 18; (with_reducible refine (stolelaw0_numbers7.calls  true _ A21.out).mono ?_); rintro e w' ⟨rfl, ⟨nd, rfl⟩⟩) | (go_at_call 19; (with_reducible refine (stolelaw0_numbers8.calls  false _ A23.out).mono ?_); rintro e w' ⟨rfl, ⟨nd, rfl⟩⟩))
                          go_ret
                          exact ⟨by first | rfl | (simp; done) | (simp [*]; done), by repeat (first | exact Drawn0.refl _ | apply Drawn0.step)⟩
                      · replace c22 := Bool.eq_false_iff.mpr c22
                        subst c22
                        have H1 : (some false) = some r := by rw [if_neg (show ¬ (false = true) by decide)] at H; exact H
                        clear H
                        have H := H1
                        clear H1
                        obtain rfl := Option.some.inj H
                        go_enter Try.func3, Try.ntmps3
                        go_wp2_with (first | ((with_reducible refine gate_callee (f := 8) rfl ?_); refine goesL_ (some 1) rfl rfl Try.func8 (by kernel_rfl) rfl #[] rfl (by (try simp only [List.map_toArray, List.map_cons, List.map_nil]); first | done | rfl | (simp only [List.length_drop, List.length_take]; rfl)) ?_; (with_reducible refine (stolelaw0_errors1.calls  true _ A1.out).mono ?_); rintro e w' ⟨rfl, ⟨nd, rfl⟩⟩; refine ⟨_, rfl, ?_⟩) | (go_at_call 9; (with_reducible refine (stolelaw0_errors2.calls  true _ A3.out).mono ?_); rintro e w' ⟨rfl, ⟨nd, rfl⟩⟩) | (go_at_call 10; (with_reducible refine (stolelaw0_errors3.calls  true _ A5.out).mono ?_); rintro e w' ⟨rfl, ⟨nd, rfl⟩⟩) | (go_at_call 11; (with_reducible refine (stolelaw0_errors4.calls  true _ A7.out).mono ?_); rintro e w' ⟨rfl, ⟨nd, rfl⟩⟩) | (go_at_call 12; (with_reducible refine (stolelaw0_numbers1.calls  true _ A9.out).mono ?_); rintro e w' ⟨rfl, ⟨nd, rfl⟩⟩) | (go_at_call 13; (with_reducible refine (stolelaw0_numbers2.calls  true _ A11.out).mono ?_); rintro e w' ⟨rfl, ⟨nd, rfl⟩⟩) | (go_at_call 14; (with_reducible refine (stolelaw0_numbers3.calls  true _ A13.out).mono ?_); rintro e w' ⟨rfl, ⟨nd, rfl⟩⟩) | (go_at_call 15; (with_reducible refine (stolelaw0_numbers4.calls  true _ A15.out).mono ?_); rintro e w' ⟨rfl, ⟨nd, rfl⟩⟩) | (go_at_call 16; (with_reducible refine (stolelaw0_numbers5.calls  true _ A17.out).mono ?_); rintro e w' ⟨rfl, ⟨nd, rfl⟩⟩) | (go_at_call 17; (with_reducible refine (stolelaw0_numbers6.calls  true _ A19.out).mono ?_); rintro e w' ⟨rfl, ⟨nd, rfl⟩⟩) | (go_at_call 18; (with_reducible refine (stolelaw0_numbers7.calls  false _ A21.out).mono ?_); rintro e w' ⟨rfl, ⟨nd, rfl⟩⟩))
                        go_ret
                        exact ⟨by first | rfl | (simp; done) | (simp [*]; done), by repeat (first | exact Drawn0.refl _ | apply Drawn0.step)⟩
                    · replace c20 := Bool.eq_false_iff.mpr c20
                      subst c20
                      have H1 : (some false) = some r := by rw [if_neg (show ¬ (false = true) by decide)] at H; exact H
                      clear H
                      have H := H1
                      clear H1
                      obtain rfl := Option.some.inj H
                      go_enter Try.func3, Try.ntmps3
                      go_wp2_with (first | ((with_reducible refine gate_callee (f := 8) rfl ?_); refine goesL_ (some 1) rfl rfl Try.func8 (by kernel_rfl) rfl #[] rfl (by (try simp only [List.map_toArray, List.map_cons, List.map_nil]); first | done | rfl | (simp only [List.length_drop, List.length_take]; rfl)) ?_; (with_reducible refine (stolelaw0_errors1.calls  true _ A1.out).mono ?_); rintro e w' ⟨rfl, ⟨nd, rfl⟩⟩; refine ⟨_, rfl, ?_⟩) | (go_at_call 9; (with_reducible refine (stolelaw0_errors2.calls  true _ A3.out).mono ?_); rintro e w' ⟨rfl, ⟨nd, rfl⟩⟩) | (go_at_call 10; (with_reducible refine (stolelaw0_errors3.calls  true _ A5.out).mono ?_); rintro e w' ⟨rfl, ⟨nd, rfl⟩⟩) | (go_at_call 11; (with_reducible refine (stolelaw0_errors4.calls  true _ A7.out).mono ?_); rintro e w' ⟨rfl, ⟨nd, rfl⟩⟩) | (go_at_call 12; (with_reducible refine (stolelaw0_numbers1.calls  true _ A9.out).mono ?_); rintro e w' ⟨rfl, ⟨nd, rfl⟩⟩) | (go_at_call 13; (with_reducible refine (stolelaw0_numbers2.calls  true _ A11.out).mono ?_); rintro e w' ⟨rfl, ⟨nd, rfl⟩⟩) | (go_at_call 14; (with_reducible refine (stolelaw0_numbers3.calls  true _ A13.out).mono ?_); rintro e w' ⟨rfl, ⟨nd, rfl⟩⟩) | (go_at_call 15; (with_reducible refine (stolelaw0_numbers4.calls  true _ A15.out).mono ?_); rintro e w' ⟨rfl, ⟨nd, rfl⟩⟩) | (go_at_call 16; (with_reducible refine (stolelaw0_numbers5.calls  true _ A17.out).mono ?_); rintro e w' ⟨rfl, ⟨nd, rfl⟩⟩) | (go_at_call 17; (with_reducible refine (stolelaw0_numbers6.calls  false _ A19.out).mono ?_); rintro e w' ⟨rfl, ⟨nd, rfl⟩⟩))
                      go_ret
                      exact ⟨by first | rfl | (simp; done) | (simp [*]; done), by repeat (first | exact Drawn0.refl _ | apply Drawn0.step)⟩
                  · replace c18 := Bool.eq_false_iff.mpr c18
                    subst c18
                    have H1 : (some false) = some r := by rw [if_neg (show ¬ (false = true) by decide)] at H; exact H
                    clear H
                    have H := H1
                    clear H1
                    obtain rfl := Option.some.inj H
                    go_enter Try.func3, Try.ntmps3
                    go_wp2_with (first | ((with_reducible refine gate_callee (f := 8) rfl ?_); refine goesL_ (some 1) rfl rfl Try.func8 (by kernel_rfl) rfl #[] rfl (by (try simp only [List.map_toArray, List.map_cons, List.map_nil]); first | done | rfl | (simp only [List.length_drop, List.length_take]; rfl)) ?_; (with_reducible refine (stolelaw0_errors1.calls  true _ A1.out).mono ?_); rintro e w' ⟨rfl, ⟨nd, rfl⟩⟩; refine ⟨_, rfl, ?_⟩) | (go_at_call 9; (with_reducible refine (stolelaw0_errors2.calls  true _ A3.out).mono ?_); rintro e w' ⟨rfl, ⟨nd, rfl⟩⟩) | (go_at_call 10; (with_reducible refine (stolelaw0_errors3.calls  true _ A5.out).mono ?_); rintro e w' ⟨rfl, ⟨nd, rfl⟩⟩) | (go_at_call 11; (with_reducible refine (stolelaw0_errors4.calls  true _ A7.out).mono ?_); rintro e w' ⟨rfl, ⟨nd, rfl⟩⟩) | (go_at_call 12; (with_reducible refine (stolelaw0_numbers1.calls  true _ A9.out).mono ?_); rintro e w' ⟨rfl, ⟨nd, rfl⟩⟩) | (go_at_call 13; (with_reducible refine (stolelaw0_numbers2.calls  true _ A11.out).mono ?_); rintro e w' ⟨rfl, ⟨nd, rfl⟩⟩) | (go_at_call 14; (with_reducible refine (stolelaw0_numbers3.calls  true _ A13.out).mono ?_); rintro e w' ⟨rfl, ⟨nd, rfl⟩⟩) | (go_at_call 15; (with_reducible refine (stolelaw0_numbers4.calls  true _ A15.out).mono ?_); rintro e w' ⟨rfl, ⟨nd, rfl⟩⟩) | (go_at_call 16; (with_reducible refine (stolelaw0_numbers5.calls  false _ A17.out).mono ?_); rintro e w' ⟨rfl, ⟨nd, rfl⟩⟩))
                    go_ret
                    exact ⟨by first | rfl | (simp; done) | (simp [*]; done), by repeat (first | exact Drawn0.refl _ | apply Drawn0.step)⟩
                · replace c16 := Bool.eq_false_iff.mpr c16
                  subst c16
                  have H1 : (some false) = some r := by rw [if_neg (show ¬ (false = true) by decide)] at H; exact H
                  clear H
                  have H := H1
                  clear H1
                  obtain rfl := Option.some.inj H
                  go_enter Try.func3, Try.ntmps3
                  go_wp2_with (first | ((with_reducible refine gate_callee (f := 8) rfl ?_); refine goesL_ (some 1) rfl rfl Try.func8 (by kernel_rfl) rfl #[] rfl (by (try simp only [List.map_toArray, List.map_cons, List.map_nil]); first | done | rfl | (simp only [List.length_drop, List.length_take]; rfl)) ?_; (with_reducible refine (stolelaw0_errors1.calls  true _ A1.out).mono ?_); rintro e w' ⟨rfl, ⟨nd, rfl⟩⟩; refine ⟨_, rfl, ?_⟩) | (go_at_call 9; (with_reducible refine (stolelaw0_errors2.calls  true _ A3.out).mono ?_); rintro e w' ⟨rfl, ⟨nd, rfl⟩⟩) | (go_at_call 10; (with_reducible refine (stolelaw0_errors3.calls  true _ A5.out).mono ?_); rintro e w' ⟨rfl, ⟨nd, rfl⟩⟩) | (go_at_call 11; (with_reducible refine (stolelaw0_errors4.calls  true _ A7.out).mono ?_); rintro e w' ⟨rfl, ⟨nd, rfl⟩⟩) | (go_at_call 12; (with_reducible refine (stolelaw0_numbers1.calls  true _ A9.out).mono ?_); rintro e w' ⟨rfl, ⟨nd, rfl⟩⟩) | (go_at_call 13; (with_reducible refine (stolelaw0_numbers2.calls  true _ A11.out).mono ?_); rintro e w' ⟨rfl, ⟨nd, rfl⟩⟩) | (go_at_call 14; (with_reducible refine (stolelaw0_numbers3.calls  true _ A13.out).mono ?_); rintro e w' ⟨rfl, ⟨nd, rfl⟩⟩) | (go_at_call 15; (with_reducible refine (stolelaw0_numbers4.calls  false _ A15.out).mono ?_); rintro e w' ⟨rfl, ⟨nd, rfl⟩⟩))
                  go_ret
                  exact ⟨by first | rfl | (simp; done) | (simp [*]; done), by repeat (first | exact Drawn0.refl _ | apply Drawn0.step)⟩
              · replace c14 := Bool.eq_false_iff.mpr c14
                subst c14
                have H1 : (some false) = some r := by rw [if_neg (show ¬ (false = true) by decide)] at H; exact H
                clear H
                have H := H1
                clear H1
                obtain rfl := Option.some.inj H
                go_enter Try.func3, Try.ntmps3
                go_wp2_with (first | ((with_reducible refine gate_callee (f := 8) rfl ?_); refine goesL_ (some 1) rfl rfl Try.func8 (by kernel_rfl) rfl #[] rfl (by (try simp only [List.map_toArray, List.map_cons, List.map_nil]); first | done | rfl | (simp only [List.length_drop, List.length_take]; rfl)) ?_; (with_reducible refine (stolelaw0_errors1.calls  true _ A1.out).mono ?_); rintro e w' ⟨rfl, ⟨nd, rfl⟩⟩; refine ⟨_, rfl, ?_⟩) | (go_at_call 9; (with_reducible refine (stolelaw0_errors2.calls  true _ A3.out).mono ?_); rintro e w' ⟨rfl, ⟨nd, rfl⟩⟩) | (go_at_call 10; (with_reducible refine (stolelaw0_errors3.calls  true _ A5.out).mono ?_); rintro e w' ⟨rfl, ⟨nd, rfl⟩⟩) | (go_at_call 11; (with_reducible refine (stolelaw0_errors4.calls  true _ A7.out).mono ?_); rintro e w' ⟨rfl, ⟨nd, rfl⟩⟩) | (go_at_call 12; (with_reducible refine (stolelaw0_numbers1.calls  true _ A9.out).mono ?_); rintro e w' ⟨rfl, ⟨nd, rfl⟩⟩) | (go_at_call 13; (with_reducible refine (stolelaw0_numbers2.calls  true _ A11.out).mono ?_); rintro e w' ⟨rfl, ⟨nd, rfl⟩⟩) | (go_at_call 14; (with_reducible refine (stolelaw0_numbers3.calls  false _ A13.out).mono ?_); rintro e w' ⟨rfl, ⟨nd, rfl⟩⟩))
                go_ret
                exact ⟨by first | rfl | (simp; done) | (simp [*]; done), by repeat (first | exact Drawn0.refl _ | apply Drawn0.step)⟩
            · replace c12 := Bool.eq_false_iff.mpr c12
              subst c12
              have H1 : (some false) = some r := by rw [if_neg (show ¬ (false = true) by decide)] at H; exact H
              clear H
              have H := H1
              clear H1
              obtain rfl := Option.some.inj H
              go_enter Try.func3, Try.ntmps3
              go_wp2_with (first | ((with_reducible refine gate_callee (f := 8) rfl ?_); refine goesL_ (some 1) rfl rfl Try.func8 (by kernel_rfl) rfl #[] rfl (by (try simp only [List.map_toArray, List.map_cons, List.map_nil]); first | done | rfl | (simp only [List.length_drop, List.length_take]; rfl)) ?_; (with_reducible refine (stolelaw0_errors1.calls  true _ A1.out).mono ?_); rintro e w' ⟨rfl, ⟨nd, rfl⟩⟩; refine ⟨_, rfl, ?_⟩) | (go_at_call 9; (with_reducible refine (stolelaw0_errors2.calls  true _ A3.out).mono ?_); rintro e w' ⟨rfl, ⟨nd, rfl⟩⟩) | (go_at_call 10; (with_reducible refine (stolelaw0_errors3.calls  true _ A5.out).mono ?_); rintro e w' ⟨rfl, ⟨nd, rfl⟩⟩) | (go_at_call 11; (with_reducible refine (stolelaw0_errors4.calls  true _ A7.out).mono ?_); rintro e w' ⟨rfl, ⟨nd, rfl⟩⟩) | (go_at_call 12; (with_reducible refine (stolelaw0_numbers1.calls  true _ A9.out).mono ?_); rintro e w' ⟨rfl, ⟨nd, rfl⟩⟩) | (go_at_call 13; (with_reducible refine (stolelaw0_numbers2.calls  false _ A11.out).mono ?_); rintro e w' ⟨rfl, ⟨nd, rfl⟩⟩))
              go_ret
              exact ⟨by first | rfl | (simp; done) | (simp [*]; done), by repeat (first | exact Drawn0.refl _ | apply Drawn0.step)⟩
          · replace c10 := Bool.eq_false_iff.mpr c10
            subst c10
            have H1 : (some false) = some r := by rw [if_neg (show ¬ (false = true) by decide)] at H; exact H
            clear H
            have H := H1
            clear H1
            obtain rfl := Option.some.inj H
            go_enter Try.func3, Try.ntmps3
            go_wp2_with (first | ((with_reducible refine gate_callee (f := 8) rfl ?_); refine goesL_ (some 1) rfl rfl Try.func8 (by kernel_rfl) rfl #[] rfl (by (try simp only [List.map_toArray, List.map_cons, List.map_nil]); first | done | rfl | (simp only [List.length_drop, List.length_take]; rfl)) ?_; (with_reducible refine (stolelaw0_errors1.calls  true _ A1.out).mono ?_); rintro e w' ⟨rfl, ⟨nd, rfl⟩⟩; refine ⟨_, rfl, ?_⟩) | (go_at_call 9; (with_reducible refine (stolelaw0_errors2.calls  true _ A3.out).mono ?_); rintro e w' ⟨rfl, ⟨nd, rfl⟩⟩) | (go_at_call 10; (with_reducible refine (stolelaw0_errors3.calls  true _ A5.out).mono ?_); rintro e w' ⟨rfl, ⟨nd, rfl⟩⟩) | (go_at_call 11; (with_reducible refine (stolelaw0_errors4.calls  true _ A7.out).mono ?_); rintro e w' ⟨rfl, ⟨nd, rfl⟩⟩) | (go_at_call 12; (with_reducible refine (stolelaw0_numbers1.calls  false _ A9.out).mono ?_); rintro e w' ⟨rfl, ⟨nd, rfl⟩⟩))
            go_ret
            exact ⟨by first | rfl | (simp; done) | (simp [*]; done), by repeat (first | exact Drawn0.refl _ | apply Drawn0.step)⟩
        · replace c8 := Bool.eq_false_iff.mpr c8
          subst c8
          have H1 : (some false) = some r := by rw [if_neg (show ¬ (false = true) by decide)] at H; exact H
          clear H
          have H := H1
          clear H1
          obtain rfl := Option.some.inj H
          go_enter Try.func3, Try.ntmps3
          go_wp2_with (first | ((with_reducible refine gate_callee (f := 8) rfl ?_); refine goesL_ (some 1) rfl rfl Try.func8 (by kernel_rfl) rfl #[] rfl (by (try simp only [List.map_toArray, List.map_cons, List.map_nil]); first | done | rfl | (simp only [List.length_drop, List.length_take]; rfl)) ?_; (with_reducible refine (stolelaw0_errors1.calls  true _ A1.out).mono ?_); rintro e w' ⟨rfl, ⟨nd, rfl⟩⟩; refine ⟨_, rfl, ?_⟩) | (go_at_call 9; (with_reducible refine (stolelaw0_errors2.calls  true _ A3.out).mono ?_); rintro e w' ⟨rfl, ⟨nd, rfl⟩⟩) | (go_at_call 10; (with_reducible refine (stolelaw0_errors3.calls  true _ A5.out).mono ?_); rintro e w' ⟨rfl, ⟨nd, rfl⟩⟩) | (go_at_call 11; (with_reducible refine (stolelaw0_errors4.calls  false _ A7.out).mono ?_); rintro e w' ⟨rfl, ⟨nd, rfl⟩⟩))
          go_ret
          exact ⟨by first | rfl | (simp; done) | (simp [*]; done), by repeat (first | exact Drawn0.refl _ | apply Drawn0.step)⟩
      · replace c6 := Bool.eq_false_iff.mpr c6
        subst c6
        have H1 : (some false) = some r := by rw [if_neg (show ¬ (false = true) by decide)] at H; exact H
        clear H
        have H := H1
        clear H1
        obtain rfl := Option.some.inj H
        go_enter Try.func3, Try.ntmps3
        go_wp2_with (first | ((with_reducible refine gate_callee (f := 8) rfl ?_); refine goesL_ (some 1) rfl rfl Try.func8 (by kernel_rfl) rfl #[] rfl (by (try simp only [List.map_toArray, List.map_cons, List.map_nil]); first | done | rfl | (simp only [List.length_drop, List.length_take]; rfl)) ?_; (with_reducible refine (stolelaw0_errors1.calls  true _ A1.out).mono ?_); rintro e w' ⟨rfl, ⟨nd, rfl⟩⟩; refine ⟨_, rfl, ?_⟩) | (go_at_call 9; (with_reducible refine (stolelaw0_errors2.calls  true _ A3.out).mono ?_); rintro e w' ⟨rfl, ⟨nd, rfl⟩⟩) | (go_at_call 10; (with_reducible refine (stolelaw0_errors3.calls  false _ A5.out).mono ?_); rintro e w' ⟨rfl, ⟨nd, rfl⟩⟩))
        go_ret
        exact ⟨by first | rfl | (simp; done) | (simp [*]; done), by repeat (first | exact Drawn0.refl _ | apply Drawn0.step)⟩
    · replace c4 := Bool.eq_false_iff.mpr c4
      subst c4
      have H1 : (some false) = some r := by rw [if_neg (show ¬ (false = true) by decide)] at H; exact H
      clear H
      have H := H1
      clear H1
      obtain rfl := Option.some.inj H
      go_enter Try.func3, Try.ntmps3
      go_wp2_with (first | ((with_reducible refine gate_callee (f := 8) rfl ?_); refine goesL_ (some 1) rfl rfl Try.func8 (by kernel_rfl) rfl #[] rfl (by (try simp only [List.map_toArray, List.map_cons, List.map_nil]); first | done | rfl | (simp only [List.length_drop, List.length_take]; rfl)) ?_; (with_reducible refine (stolelaw0_errors1.calls  true _ A1.out).mono ?_); rintro e w' ⟨rfl, ⟨nd, rfl⟩⟩; refine ⟨_, rfl, ?_⟩) | (go_at_call 9; (with_reducible refine (stolelaw0_errors2.calls  false _ A3.out).mono ?_); rintro e w' ⟨rfl, ⟨nd, rfl⟩⟩))
      go_ret
      exact ⟨by first | rfl | (simp; done) | (simp [*]; done), by repeat (first | exact Drawn0.refl _ | apply Drawn0.step)⟩
  · replace c2 := Bool.eq_false_iff.mpr c2
    subst c2
    have H1 : (some false) = some r := by rw [if_neg (show ¬ (false = true) by decide)] at H; exact H
    clear H
    have H := H1
    clear H1
    obtain rfl := Option.some.inj H
    go_enter Try.func3, Try.ntmps3
    go_wp2_with (first | ((with_reducible refine gate_callee (f := 8) rfl ?_); refine goesL_ (some 1) rfl rfl Try.func8 (by kernel_rfl) rfl #[] rfl (by (try simp only [List.map_toArray, List.map_cons, List.map_nil]); first | done | rfl | (simp only [List.length_drop, List.length_take]; rfl)) ?_; (with_reducible refine (stolelaw0_errors1.calls  false _ A1.out).mono ?_); rintro e w' ⟨rfl, ⟨nd, rfl⟩⟩; refine ⟨_, rfl, ?_⟩))
    go_ret
    exact ⟨by first | rfl | (simp; done) | (simp [*]; done), by repeat (first | exact Drawn0.refl _ | apply Drawn0.step)⟩

/-- THE ONE PURE STATEMENT of stolelaw0_StoleNames: yours. -/
def stolelaw0_StoleNames.Pure : Prop := stolelaw0_StoleNames.f  = some true
theorem stolelaw0_StoleNames.walk (P : stolelaw0_StoleNames.Pure)  (w : World)  :
    Calls Try.prog 3 #[] w fun e w' => e = .returned (.bool true) ∧ Below w.heap.size w w' := by
  have h := P  
  refine (stolelaw0_StoleNames.calls  true w h).mono ?_
  rintro e w' ⟨rfl, hd⟩
  exact ⟨rfl, hd.below⟩

end Go.Proofs.Ytpknepalceffgaa.PStoleNames
