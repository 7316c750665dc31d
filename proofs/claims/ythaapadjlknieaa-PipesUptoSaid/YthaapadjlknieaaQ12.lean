-- By splice.py, a program of this session's, over the kit's print: a text of this seat's own.
import Derived.Test.YthaapadjlknieaaQ0
import Derived.Test.YthaapadjlknieaaQ9
import Derived.Test.YthaapadjlknieaaQ11
namespace Go.Proofs.Ythaapadjlknieaa.Q
open Go.RowKit Go.Proofs.YthaapadjlknieaaW.PrintWords Go.Proofs.YthaapadjlknieaaW.PrintLast Go.Proofs.YthaapadjlknieaaW.PrintMore
attribute [local go_sem] max2_int min2_int max_two min_two max_three min_three max_four min_four   -- for this text's walks alone
set_option linter.unusedVariables false
set_option linter.unusedSimpArgs false

theorem am_ {p : Prop} (h : p) : Aside0 p := ⟨h⟩
/-! ### stoleref13_PipeMay: function 14 -/
mutual
def stoleref13_PipeMay.l0 : Nat → List (S38) → Int → Option (Bool)
  | 0, _, _ => none
  | k + 1, x0, x3 => if x3 < (x0.length : Int) then (if 0 ≤ x3 then ((stoleref13_Function.f k ((rd_T38 x0 x3).f0)).bind fun t345 => (if t345 = true then (stoleref13_PipeMay.j1 k x0 x3 (decide ((((rd_T38 x0 x3).f1).length : Int) > 8))) else (if ((rd_T38 x0 x3).f0).toList = ([] : List UInt8) then (if x3 > 0 then (stoleref13_PipeMay.j1 k x0 x3 true) else (if (((rd_T38 x0 x3).f1).length : Int) = 1 then (stoleref13_PipeMay.j1 k x0 x3 (decide ((((rd_T38 x0 x3).f1).length : Int) > 8))) else (stoleref13_PipeMay.j1 k x0 x3 true))) else (stoleref13_PipeMay.j1 k x0 x3 true)))) else (none)) else (if (x0.length : Int) ≥ 1 then (some (decide ((x0.length : Int) ≤ 8))) else (some false))
def stoleref13_PipeMay.j1 : Nat → List (S38) → Int → Bool → Option (Bool)
  | 0, _, _, _ => none
  | k + 1, x0, x3, x47 => if x47 = true then (some false) else (stoleref13_PipeMay.l1 k x0 x3 0)
def stoleref13_PipeMay.l1 : Nat → List (S38) → Int → Int → Option (Bool)
  | 0, _, _, _ => none
  | k + 1, x0, x3, x4 => if 0 ≤ x3 then (if x3 < (x0.length : Int) then (if x4 < (((rd_T38 x0 x3).f1).length : Int) then (if 0 ≤ x4 then ((stoleref13_argMay.f k ((rd_T41 ((rd_T38 x0 x3).f1) x4).f0) ((rd_T41 ((rd_T38 x0 x3).f1) x4).f1) ((rd_T41 ((rd_T38 x0 x3).f1) x4).f2) ((rd_T41 ((rd_T38 x0 x3).f1) x4).f3) ((rd_T41 ((rd_T38 x0 x3).f1) x4).f4)).bind fun t353 => (if t353 = true then (stoleref13_PipeMay.l1 k x0 x3 (wrap64 (x4 + 1))) else (some false))) else (none)) else (stoleref13_PipeMay.l0 k x0 (wrap64 (x3 + 1)))) else (none)) else (none)
end
def stoleref13_PipeMay.f (k : Nat) (l0 : List (S38)) : Option (Bool) := stoleref13_PipeMay.l0 k l0 0
theorem stoleref13_PipeMay.mono_l : ∀ k, (∀ y0 y1, LeO (stoleref13_PipeMay.l0 k y0 y1) (stoleref13_PipeMay.l0 (k + 1) y0 y1)) ∧ (∀ y0 y1 y2, LeO (stoleref13_PipeMay.j1 k y0 y1 y2) (stoleref13_PipeMay.j1 (k + 1) y0 y1 y2)) ∧ (∀ y0 y1 y2, LeO (stoleref13_PipeMay.l1 k y0 y1 y2) (stoleref13_PipeMay.l1 (k + 1) y0 y1 y2))
  | 0 => ⟨fun _ _ r h => by simp [stoleref13_PipeMay.l0] at h, fun _ _ _ r h => by simp [stoleref13_PipeMay.j1] at h, fun _ _ _ r h => by simp [stoleref13_PipeMay.l1] at h⟩
  | k + 1 => by
    obtain ⟨ih0, ih1, ih2⟩ := stoleref13_PipeMay.mono_l k
    refine ⟨?_, ?_, ?_⟩
    · intro y0 y1
      unfold stoleref13_PipeMay.l0
      repeat' first
      | (with_reducible exact ih0 _ _)
      | (with_reducible exact ih1 _ _ _)
      | (with_reducible exact ih2 _ _ _)
      | (with_reducible exact stoleref13_Function.mono _ _)
      | (with_reducible exact stoleref13_argMay.mono _ _ _ _ _ _)
      | (with_reducible exact LeO.refl _)
      | (with_reducible exact LeO.none _)
      | (with_reducible refine LeO.ite ?_ ?_)
      | (with_reducible refine LeO.bind ?_ (fun _ => ?_))
      | exact ih0 _ _
      | exact ih1 _ _ _
      | exact ih2 _ _ _
      | exact stoleref13_Function.mono _ _
      | exact stoleref13_argMay.mono _ _ _ _ _ _
      | exact LeO.none _
      | refine LeO.ite ?_ ?_
      | refine LeO.bind ?_ (fun _ => ?_)
    · intro y0 y1 y2
      unfold stoleref13_PipeMay.j1
      repeat' first
      | (with_reducible exact ih0 _ _)
      | (with_reducible exact ih1 _ _ _)
      | (with_reducible exact ih2 _ _ _)
      | (with_reducible exact stoleref13_Function.mono _ _)
      | (with_reducible exact stoleref13_argMay.mono _ _ _ _ _ _)
      | (with_reducible exact LeO.refl _)
      | (with_reducible exact LeO.none _)
      | (with_reducible refine LeO.ite ?_ ?_)
      | (with_reducible refine LeO.bind ?_ (fun _ => ?_))
      | exact ih0 _ _
      | exact ih1 _ _ _
      | exact ih2 _ _ _
      | exact stoleref13_Function.mono _ _
      | exact stoleref13_argMay.mono _ _ _ _ _ _
      | exact LeO.none _
      | refine LeO.ite ?_ ?_
      | refine LeO.bind ?_ (fun _ => ?_)
    · intro y0 y1 y2
      unfold stoleref13_PipeMay.l1
      repeat' first
      | (with_reducible exact ih0 _ _)
      | (with_reducible exact ih1 _ _ _)
      | (with_reducible exact ih2 _ _ _)
      | (with_reducible exact stoleref13_Function.mono _ _)
      | (with_reducible exact stoleref13_argMay.mono _ _ _ _ _ _)
      | (with_reducible exact LeO.refl _)
      | (with_reducible exact LeO.none _)
      | (with_reducible refine LeO.ite ?_ ?_)
      | (with_reducible refine LeO.bind ?_ (fun _ => ?_))
      | exact ih0 _ _
      | exact ih1 _ _ _
      | exact ih2 _ _ _
      | exact stoleref13_Function.mono _ _
      | exact stoleref13_argMay.mono _ _ _ _ _ _
      | exact LeO.none _
      | refine LeO.ite ?_ ?_
      | refine LeO.bind ?_ (fun _ => ?_)
theorem stoleref13_PipeMay.mono : ∀ a0 k, LeO (stoleref13_PipeMay.f k a0) (stoleref13_PipeMay.f (k + 1) a0) := by
  intro a0 k
  obtain ⟨ih0, ih1, ih2⟩ := stoleref13_PipeMay.mono_l k
  unfold stoleref13_PipeMay.f
  repeat' first
      | (with_reducible exact ih0 _ _)
      | (with_reducible exact ih1 _ _ _)
      | (with_reducible exact ih2 _ _ _)
      | (with_reducible exact stoleref13_Function.mono _ _)
      | (with_reducible exact stoleref13_argMay.mono _ _ _ _ _ _)
      | (with_reducible exact LeO.refl _)
      | (with_reducible exact LeO.none _)
      | (with_reducible refine LeO.ite ?_ ?_)
      | (with_reducible refine LeO.bind ?_ (fun _ => ?_))
      | exact ih0 _ _
      | exact ih1 _ _ _
      | exact ih2 _ _ _
      | exact stoleref13_Function.mono _ _
      | exact stoleref13_argMay.mono _ _ _ _ _ _
      | exact LeO.none _
      | refine LeO.ite ?_ ?_
      | refine LeO.bind ?_ (fun _ => ?_)
set_option maxHeartbeats 8000000 in
set_option maxRecDepth 100000 in
theorem stoleref13_PipeMay.calls (k : Nat) (A0 : Option Addr) (c0 : Nat) (l0 : List (S38)) (r : Bool) (w : World) (hr0 : Kd.C k38 w A0 l0.length l0) (hc0 : l0.length ≤ c0) (h : stoleref13_PipeMay.f k l0 = some r) :
    Calls Try.prog 14 #[.slice A0 l0.length c0] w fun e w' => e = .returned (.bool r) ∧ Below w.heap.size w w' := by
  have hu41 := Try.underlying41
  have HR0 := am_ hr0
  have HC0 := am_ hc0
  clear hr0 hc0
  have HB := am_ (Below.refl w.heap.size w)
  have H : (stoleref13_PipeMay.l0 k l0 0) = some r := h
  clear h
  have H' := am_ H
  clear H
  go_enter Try.func14, Try.ntmps14
  go_wp2
  go_loopg [3] k (fun kq v3 w' => ∃ (x3_1 : Int), v3 = .int .i64 x3_1 ∧ Aside0 (stoleref13_PipeMay.l0 kq l0 x3_1 = some r) ∧ Aside0 (kq ≤ k) ∧ Aside0 (Below w.heap.size w w'))
  case atStart => exact ⟨(0), (by first | rfl | (simp; done) | (simp [*]; done)), H', ⟨Nat.le_refl _⟩, ⟨by repeat (first | (with_reducible first | exact HB.out | apply below_alloc | apply pw_below_drewN | apply below_drew1) | exact HB.out)⟩⟩
  case round =>
    clear H'
    try clear c1
    obtain ⟨x3_1, rfl, HA, HK1, HB⟩ := hrel
    cases gk with
    | zero => exact absurd HA.out (by simp [stoleref13_PipeMay.l0])
    | succ k1 =>
      have H := HA.out
      clear HA
      simp only [stoleref13_PipeMay.l0] at H
      by_cases c2 : x3_1 < (l0.length : Int)
      · rw [if_pos c2] at H
        have c2b0 : decide (x3_1 < (l0.length : Int)) = true := decide_eq_true c2
        clear c2
        have HC3 := am_ H
        clear H
        go_upto_region 4 with (fail)
        go_cut [47] (fun v47 wc => ∃ (kq : Nat) (x47_2 : Bool), v47 = .bool x47_2 ∧ Aside0 (stoleref13_PipeMay.j1 kq l0 x3_1 x47_2 = some r) ∧ Aside0 (kq ≤ k1) ∧ Aside0 (Below w.heap.size w wc))
        case first =>
          have H := HC3.out
          clear HC3
          by_cases c4 : 0 ≤ x3_1
          · rw [if_pos c4] at H
            have c4b0 : decide (0 ≤ x3_1) = true := decide_eq_true c4
            clear c4
            (first | rw [c4b0] | (simp only [i64_w, i32_w]; rw [c4b0]) | skip)
            replace H := Option.bind_eq_some_iff.mp H
            obtain ⟨t345, A50, H⟩ := H
            replace H : (if t345 = true then (stoleref13_PipeMay.j1 k1 l0 x3_1 (decide ((((rd_T38 l0 x3_1).f1).length : Int) > 8))) else (if ((rd_T38 l0 x3_1).f0).toList = ([] : List UInt8) then (if x3_1 > 0 then (stoleref13_PipeMay.j1 k1 l0 x3_1 true) else (if (((rd_T38 l0 x3_1).f1).length : Int) = 1 then (stoleref13_PipeMay.j1 k1 l0 x3_1 (decide ((((rd_T38 l0 x3_1).f1).length : Int) > 8))) else (stoleref13_PipeMay.j1 k1 l0 x3_1 true))) else (stoleref13_PipeMay.j1 k1 l0 x3_1 true))) = some r := H
            have A5 := am_ A50
            clear A50
            by_cases c6 : t345 = true
            · subst c6
              have H1 : (stoleref13_PipeMay.j1 k1 l0 x3_1 (decide ((((rd_T38 l0 x3_1).f1).length : Int) > 8))) = some r := by rw [if_pos rfl] at H; exact H
              clear H
              have H := H1
              clear H1
              have H' := am_ H
              clear H
              have p344 : 0 ≤ (x3_1 : Int) := of_decide_eq_true (by first | (with_reducible assumption) | assumption)
              have q344 : x3_1 < (l0.length : Int) := of_decide_eq_true (by first | (with_reducible assumption) | assumption)
              obtain ⟨ad344, A344_1, c344_1, e344, hx344_0, hx344_1, hl344_1, hi344_1⟩ := at_T38 HR0.out x3_1 p344 q344
              cases e344
              replace hx344_0 := (HB.out.cell (World.block_lt_of_cell? w _ hx344_0)).trans hx344_0
              replace hx344_1 := (HB.out.cell (World.block_lt_of_cell? w _ hx344_1)).trans hx344_1
              have HR344_1 := am_ hi344_1
              have HC344_1 := am_ hl344_1
              clear hi344_1 hl344_1
              replace p344 := eq_true p344
              replace q344 := eq_true q344
              go_wp2_with (first | ((with_reducible refine gate_callee (f := 25) rfl ?_); refine goesL_ (some 16) rfl rfl Try.func25 (by kernel_rfl) rfl #[.string ((rd_T38 l0 x3_1).f0)] rfl (by (try simp only [List.map_toArray, List.map_cons, List.map_nil]); first | done | rfl | (simp only [List.length_drop, List.length_take]; rfl)) ?_; (with_reducible refine (stoleref13_Function.calls k1 ((rd_T38 l0 x3_1).f0) true _ A5.out).mono ?_); rintro e w' ⟨rfl, ⟨nd, rfl⟩⟩; refine ⟨_, rfl, ?_⟩; have p346 : 0 ≤ (x3_1 : Int) := of_decide_eq_true (by first | (with_reducible assumption) | assumption); have q346 : x3_1 < (l0.length : Int) := of_decide_eq_true (by first | (with_reducible assumption) | assumption); obtain ⟨ad346, A346_1, c346_1, e346, hx346_0, hx346_1, hl346_1, hi346_1⟩ := at_T38 HR0.out x3_1 p346 q346; obtain rfl : ad344 = ad346 := (by injection e346); replace hx346_0 := (HB.out.cell (World.block_lt_of_cell? w _ hx346_0)).trans hx346_0; replace hx346_1 := (HB.out.cell (World.block_lt_of_cell? w _ hx346_1)).trans hx346_1; have HR346_1 := am_ hi346_1; have HC346_1 := am_ hl346_1; clear hi346_1 hl346_1; replace p346 := eq_true p346; replace q346 := eq_true q346; have ea_ := Option.some.inj (hx344_1.symm.trans hx346_1); injection ea_ with ea_ en_ ec_; subst ea_; subst ec_; clear en_))
              go_meet
              case rel => exact ⟨_, (decide ((((rd_T38 l0 x3_1).f1).length : Int) > 8)), (by first | rfl | (simp; done) | (simp [*]; done)), H', ⟨by have := HK1.out; first | omega | exact Nat.le_refl _⟩, ⟨by repeat (first | (with_reducible first | exact HB.out | apply below_alloc | apply pw_below_drewN | apply below_drew1) | exact HB.out)⟩⟩
            · replace c6 := Bool.eq_false_iff.mpr c6
              subst c6
              have H1 : (if ((rd_T38 l0 x3_1).f0).toList = ([] : List UInt8) then (if x3_1 > 0 then (stoleref13_PipeMay.j1 k1 l0 x3_1 true) else (if (((rd_T38 l0 x3_1).f1).length : Int) = 1 then (stoleref13_PipeMay.j1 k1 l0 x3_1 (decide ((((rd_T38 l0 x3_1).f1).length : Int) > 8))) else (stoleref13_PipeMay.j1 k1 l0 x3_1 true))) else (stoleref13_PipeMay.j1 k1 l0 x3_1 true)) = some r := by rw [if_neg (show ¬ (false = true) by decide)] at H; exact H
              clear H
              have H := H1
              clear H1
              by_cases c7 : ((rd_T38 l0 x3_1).f0).toList = ([] : List UInt8)
              · rw [if_pos c7] at H
                have c7b0 : (((rd_T38 l0 x3_1).f0).toList == ([] : List UInt8)) = true := beq_iff_eq.mpr c7
                have c7b1 : (((rd_T38 l0 x3_1).f0).toList != ([] : List UInt8)) = false := bne_eq_false_iff_eq.mpr c7
                clear c7
                by_cases c8 : x3_1 > 0
                · rw [if_pos c8] at H
                  have c8b0 : decide (0 < x3_1) = true := decide_eq_true c8
                  clear c8
                  have H' := am_ H
                  clear H
                  have p344 : 0 ≤ (x3_1 : Int) := of_decide_eq_true (by first | (with_reducible assumption) | assumption)
                  have q344 : x3_1 < (l0.length : Int) := of_decide_eq_true (by first | (with_reducible assumption) | assumption)
                  obtain ⟨ad344, A344_1, c344_1, e344, hx344_0, hx344_1, hl344_1, hi344_1⟩ := at_T38 HR0.out x3_1 p344 q344
                  cases e344
                  replace hx344_0 := (HB.out.cell (World.block_lt_of_cell? w _ hx344_0)).trans hx344_0
                  replace hx344_1 := (HB.out.cell (World.block_lt_of_cell? w _ hx344_1)).trans hx344_1
                  have HR344_1 := am_ hi344_1
                  have HC344_1 := am_ hl344_1
                  clear hi344_1 hl344_1
                  replace p344 := eq_true p344
                  replace q344 := eq_true q344
                  go_wp2_with (first | ((with_reducible refine gate_callee (f := 25) rfl ?_); refine goesL_ (some 16) rfl rfl Try.func25 (by kernel_rfl) rfl #[.string ((rd_T38 l0 x3_1).f0)] rfl (by (try simp only [List.map_toArray, List.map_cons, List.map_nil]); first | done | rfl | (simp only [List.length_drop, List.length_take]; rfl)) ?_; (with_reducible refine (stoleref13_Function.calls k1 ((rd_T38 l0 x3_1).f0) false _ A5.out).mono ?_); rintro e w' ⟨rfl, ⟨nd, rfl⟩⟩; refine ⟨_, rfl, ?_⟩; have p347 : 0 ≤ (x3_1 : Int) := of_decide_eq_true (by first | (with_reducible assumption) | assumption); have q347 : x3_1 < (l0.length : Int) := of_decide_eq_true (by first | (with_reducible assumption) | assumption); obtain ⟨ad347, A347_1, c347_1, e347, hx347_0, hx347_1, hl347_1, hi347_1⟩ := at_T38 HR0.out x3_1 p347 q347; obtain rfl : ad344 = ad347 := (by injection e347); replace hx347_0 := (HB.out.cell (World.block_lt_of_cell? w _ hx347_0)).trans hx347_0; replace hx347_1 := (HB.out.cell (World.block_lt_of_cell? w _ hx347_1)).trans hx347_1; have HR347_1 := am_ hi347_1; have HC347_1 := am_ hl347_1; clear hi347_1 hl347_1; replace p347 := eq_true p347; replace q347 := eq_true q347; have ea_ := Option.some.inj (hx344_1.symm.trans hx347_1); injection ea_ with ea_ en_ ec_; subst ea_; subst ec_; clear en_))
                  go_meet
                  case rel => exact ⟨_, (true), (by first | rfl | (simp; done) | (simp [*]; done)), H', ⟨by have := HK1.out; first | omega | exact Nat.le_refl _⟩, ⟨by repeat (first | (with_reducible first | exact HB.out | apply below_alloc | apply pw_below_drewN | apply below_drew1) | exact HB.out)⟩⟩
                · rw [if_neg c8] at H
                  have c8b0 : decide (0 < x3_1) = false := decide_eq_false c8
                  clear c8
                  by_cases c9 : (((rd_T38 l0 x3_1).f1).length : Int) = 1
                  · rw [if_pos c9] at H
                    have c9b0 : ((((rd_T38 l0 x3_1).f1).length : Int) == 1) = true := beq_iff_eq.mpr c9
                    have c9b1 : ((((rd_T38 l0 x3_1).f1).length : Int) != 1) = false := bne_eq_false_iff_eq.mpr c9
                    clear c9
                    have H' := am_ H
                    clear H
                    have p344 : 0 ≤ (x3_1 : Int) := of_decide_eq_true (by first | (with_reducible assumption) | assumption)
                    have q344 : x3_1 < (l0.length : Int) := of_decide_eq_true (by first | (with_reducible assumption) | assumption)
                    obtain ⟨ad344, A344_1, c344_1, e344, hx344_0, hx344_1, hl344_1, hi344_1⟩ := at_T38 HR0.out x3_1 p344 q344
                    cases e344
                    replace hx344_0 := (HB.out.cell (World.block_lt_of_cell? w _ hx344_0)).trans hx344_0
                    replace hx344_1 := (HB.out.cell (World.block_lt_of_cell? w _ hx344_1)).trans hx344_1
                    have HR344_1 := am_ hi344_1
                    have HC344_1 := am_ hl344_1
                    clear hi344_1 hl344_1
                    replace p344 := eq_true p344
                    replace q344 := eq_true q344
                    go_wp2_with (first | ((with_reducible refine gate_callee (f := 25) rfl ?_); refine goesL_ (some 16) rfl rfl Try.func25 (by kernel_rfl) rfl #[.string ((rd_T38 l0 x3_1).f0)] rfl (by (try simp only [List.map_toArray, List.map_cons, List.map_nil]); first | done | rfl | (simp only [List.length_drop, List.length_take]; rfl)) ?_; (with_reducible refine (stoleref13_Function.calls k1 ((rd_T38 l0 x3_1).f0) false _ A5.out).mono ?_); rintro e w' ⟨rfl, ⟨nd, rfl⟩⟩; refine ⟨_, rfl, ?_⟩; have p347 : 0 ≤ (x3_1 : Int) := of_decide_eq_true (by first | (with_reducible assumption) | assumption); have q347 : x3_1 < (l0.length : Int) := of_decide_eq_true (by first | (with_reducible assumption) | assumption); obtain ⟨ad347, A347_1, c347_1, e347, hx347_0, hx347_1, hl347_1, hi347_1⟩ := at_T38 HR0.out x3_1 p347 q347; obtain rfl : ad344 = ad347 := (by injection e347); replace hx347_0 := (HB.out.cell (World.block_lt_of_cell? w _ hx347_0)).trans hx347_0; replace hx347_1 := (HB.out.cell (World.block_lt_of_cell? w _ hx347_1)).trans hx347_1; have HR347_1 := am_ hi347_1; have HC347_1 := am_ hl347_1; clear hi347_1 hl347_1; replace p347 := eq_true p347; replace q347 := eq_true q347; have ea_ := Option.some.inj (hx344_1.symm.trans hx347_1); injection ea_ with ea_ en_ ec_; subst ea_; subst ec_; clear en_; have p348 : 0 ≤ (x3_1 : Int) := of_decide_eq_true (by first | (with_reducible assumption) | assumption); have q348 : x3_1 < (l0.length : Int) := of_decide_eq_true (by first | (with_reducible assumption) | assumption); obtain ⟨ad348, A348_1, c348_1, e348, hx348_0, hx348_1, hl348_1, hi348_1⟩ := at_T38 HR0.out x3_1 p348 q348; obtain rfl : ad344 = ad348 := (by injection e348); replace hx348_0 := (HB.out.cell (World.block_lt_of_cell? w _ hx348_0)).trans hx348_0; replace hx348_1 := (HB.out.cell (World.block_lt_of_cell? w _ hx348_1)).trans hx348_1; have HR348_1 := am_ hi348_1; have HC348_1 := am_ hl348_1; clear hi348_1 hl348_1; replace p348 := eq_true p348; replace q348 := eq_true q348; have ea_ := Option.some.inj (hx344_1.symm.trans hx348_1); injection ea_ with ea_ en_ ec_; subst ea_; subst ec_; clear en_; have p349 : 0 ≤ (x3_1 : Int) := of_decide_eq_true (by first | (with_reducible assumption) | assumption); have q349 : x3_1 < (l0.length : Int) := of_decide_eq_true (by first | (with_reducible assumption) | assumption); obtain ⟨ad349, A349_1, c349_1, e349, hx349_0, hx349_1, hl349_1, hi349_1⟩ := at_T38 HR0.out x3_1 p349 q349; obtain rfl : ad344 = ad349 := (by injection e349); replace hx349_0 := (HB.out.cell (World.block_lt_of_cell? w _ hx349_0)).trans hx349_0; replace hx349_1 := (HB.out.cell (World.block_lt_of_cell? w _ hx349_1)).trans hx349_1; have HR349_1 := am_ hi349_1; have HC349_1 := am_ hl349_1; clear hi349_1 hl349_1; replace p349 := eq_true p349; replace q349 := eq_true q349; have ea_ := Option.some.inj (hx344_1.symm.trans hx349_1); injection ea_ with ea_ en_ ec_; subst ea_; subst ec_; clear en_))
                    go_meet
                    case rel => exact ⟨_, (decide ((((rd_T38 l0 x3_1).f1).length : Int) > 8)), (by first | rfl | (simp; done) | (simp [*]; done)), H', ⟨by have := HK1.out; first | omega | exact Nat.le_refl _⟩, ⟨by repeat (first | (with_reducible first | exact HB.out | apply below_alloc | apply pw_below_drewN | apply below_drew1) | exact HB.out)⟩⟩
                  · rw [if_neg c9] at H
                    have c9b0 : ((((rd_T38 l0 x3_1).f1).length : Int) == 1) = false := beq_eq_false_iff_ne.mpr c9
                    have c9b1 : ((((rd_T38 l0 x3_1).f1).length : Int) != 1) = true := bne_iff_ne.mpr c9
                    have H' := am_ H
                    clear H
                    have p344 : 0 ≤ (x3_1 : Int) := of_decide_eq_true (by first | (with_reducible assumption) | assumption)
                    have q344 : x3_1 < (l0.length : Int) := of_decide_eq_true (by first | (with_reducible assumption) | assumption)
                    obtain ⟨ad344, A344_1, c344_1, e344, hx344_0, hx344_1, hl344_1, hi344_1⟩ := at_T38 HR0.out x3_1 p344 q344
                    cases e344
                    replace hx344_0 := (HB.out.cell (World.block_lt_of_cell? w _ hx344_0)).trans hx344_0
                    replace hx344_1 := (HB.out.cell (World.block_lt_of_cell? w _ hx344_1)).trans hx344_1
                    have HR344_1 := am_ hi344_1
                    have HC344_1 := am_ hl344_1
                    clear hi344_1 hl344_1
                    replace p344 := eq_true p344
                    replace q344 := eq_true q344
                    go_wp2_with (first | ((with_reducible refine gate_callee (f := 25) rfl ?_); refine goesL_ (some 16) rfl rfl Try.func25 (by kernel_rfl) rfl #[.string ((rd_T38 l0 x3_1).f0)] rfl (by (try simp only [List.map_toArray, List.map_cons, List.map_nil]); first | done | rfl | (simp only [List.length_drop, List.length_take]; rfl)) ?_; (with_reducible refine (stoleref13_Function.calls k1 ((rd_T38 l0 x3_1).f0) false _ A5.out).mono ?_); rintro e w' ⟨rfl, ⟨nd, rfl⟩⟩; refine ⟨_, rfl, ?_⟩; have p347 : 0 ≤ (x3_1 : Int) := of_decide_eq_true (by first | (with_reducible assumption) | assumption); have q347 : x3_1 < (l0.length : Int) := of_decide_eq_true (by first | (with_reducible assumption) | assumption); obtain ⟨ad347, A347_1, c347_1, e347, hx347_0, hx347_1, hl347_1, hi347_1⟩ := at_T38 HR0.out x3_1 p347 q347; obtain rfl : ad344 = ad347 := (by injection e347); replace hx347_0 := (HB.out.cell (World.block_lt_of_cell? w _ hx347_0)).trans hx347_0; replace hx347_1 := (HB.out.cell (World.block_lt_of_cell? w _ hx347_1)).trans hx347_1; have HR347_1 := am_ hi347_1; have HC347_1 := am_ hl347_1; clear hi347_1 hl347_1; replace p347 := eq_true p347; replace q347 := eq_true q347; have ea_ := Option.some.inj (hx344_1.symm.trans hx347_1); injection ea_ with ea_ en_ ec_; subst ea_; subst ec_; clear en_; have p348 : 0 ≤ (x3_1 : Int) := of_decide_eq_true (by first | (with_reducible assumption) | assumption); have q348 : x3_1 < (l0.length : Int) := of_decide_eq_true (by first | (with_reducible assumption) | assumption); obtain ⟨ad348, A348_1, c348_1, e348, hx348_0, hx348_1, hl348_1, hi348_1⟩ := at_T38 HR0.out x3_1 p348 q348; obtain rfl : ad344 = ad348 := (by injection e348); replace hx348_0 := (HB.out.cell (World.block_lt_of_cell? w _ hx348_0)).trans hx348_0; replace hx348_1 := (HB.out.cell (World.block_lt_of_cell? w _ hx348_1)).trans hx348_1; have HR348_1 := am_ hi348_1; have HC348_1 := am_ hl348_1; clear hi348_1 hl348_1; replace p348 := eq_true p348; replace q348 := eq_true q348; have ea_ := Option.some.inj (hx344_1.symm.trans hx348_1); injection ea_ with ea_ en_ ec_; subst ea_; subst ec_; clear en_))
                    go_meet
                    case rel => exact ⟨_, (true), (by first | rfl | (simp; done) | (simp [*]; done)), H', ⟨by have := HK1.out; first | omega | exact Nat.le_refl _⟩, ⟨by repeat (first | (with_reducible first | exact HB.out | apply below_alloc | apply pw_below_drewN | apply below_drew1) | exact HB.out)⟩⟩
              · rw [if_neg c7] at H
                have c7b0 : (((rd_T38 l0 x3_1).f0).toList == ([] : List UInt8)) = false := beq_eq_false_iff_ne.mpr c7
                have c7b1 : (((rd_T38 l0 x3_1).f0).toList != ([] : List UInt8)) = true := bne_iff_ne.mpr c7
                have H' := am_ H
                clear H
                have p344 : 0 ≤ (x3_1 : Int) := of_decide_eq_true (by first | (with_reducible assumption) | assumption)
                have q344 : x3_1 < (l0.length : Int) := of_decide_eq_true (by first | (with_reducible assumption) | assumption)
                obtain ⟨ad344, A344_1, c344_1, e344, hx344_0, hx344_1, hl344_1, hi344_1⟩ := at_T38 HR0.out x3_1 p344 q344
                cases e344
                replace hx344_0 := (HB.out.cell (World.block_lt_of_cell? w _ hx344_0)).trans hx344_0
                replace hx344_1 := (HB.out.cell (World.block_lt_of_cell? w _ hx344_1)).trans hx344_1
                have HR344_1 := am_ hi344_1
                have HC344_1 := am_ hl344_1
                clear hi344_1 hl344_1
                replace p344 := eq_true p344
                replace q344 := eq_true q344
                go_wp2_with (first | ((with_reducible refine gate_callee (f := 25) rfl ?_); refine goesL_ (some 16) rfl rfl Try.func25 (by kernel_rfl) rfl #[.string ((rd_T38 l0 x3_1).f0)] rfl (by (try simp only [List.map_toArray, List.map_cons, List.map_nil]); first | done | rfl | (simp only [List.length_drop, List.length_take]; rfl)) ?_; (with_reducible refine (stoleref13_Function.calls k1 ((rd_T38 l0 x3_1).f0) false _ A5.out).mono ?_); rintro e w' ⟨rfl, ⟨nd, rfl⟩⟩; refine ⟨_, rfl, ?_⟩; have p347 : 0 ≤ (x3_1 : Int) := of_decide_eq_true (by first | (with_reducible assumption) | assumption); have q347 : x3_1 < (l0.length : Int) := of_decide_eq_true (by first | (with_reducible assumption) | assumption); obtain ⟨ad347, A347_1, c347_1, e347, hx347_0, hx347_1, hl347_1, hi347_1⟩ := at_T38 HR0.out x3_1 p347 q347; obtain rfl : ad344 = ad347 := (by injection e347); replace hx347_0 := (HB.out.cell (World.block_lt_of_cell? w _ hx347_0)).trans hx347_0; replace hx347_1 := (HB.out.cell (World.block_lt_of_cell? w _ hx347_1)).trans hx347_1; have HR347_1 := am_ hi347_1; have HC347_1 := am_ hl347_1; clear hi347_1 hl347_1; replace p347 := eq_true p347; replace q347 := eq_true q347; have ea_ := Option.some.inj (hx344_1.symm.trans hx347_1); injection ea_ with ea_ en_ ec_; subst ea_; subst ec_; clear en_))
                go_meet
                case rel => exact ⟨_, (true), (by first | rfl | (simp; done) | (simp [*]; done)), H', ⟨by have := HK1.out; first | omega | exact Nat.le_refl _⟩, ⟨by repeat (first | (with_reducible first | exact HB.out | apply below_alloc | apply pw_below_drewN | apply below_drew1) | exact HB.out)⟩⟩
          · rw [if_neg c4] at H
            exact absurd H (by simp)
        case rest =>
          clear HC3
          try clear c1
          try clear c2
          try clear c2b0
          try clear p2
          try clear c3
          try clear p3
          try clear q3
          try clear hx3
          try clear c4
          try clear c4b0
          try clear c6
          try clear c7
          try clear c7b0
          try clear c7b1
          try clear c8
          try clear c8b0
          try clear c9
          try clear c9b0
          try clear c9b1
          try clear hx344_0
          try clear hx344_1
          try clear hx346_0
          try clear hx346_1
          try clear hx347_0
          try clear hx347_1
          try clear hx348_0
          try clear hx348_1
          try clear hx349_0
          try clear hx349_1
          try clear p344
          try clear p346
          try clear p347
          try clear p348
          try clear p349
          try clear q344
          try clear q346
          try clear q347
          try clear q348
          try clear q349
          obtain ⟨kq, x47_2, rfl, HA, HJ2, HB⟩ := hcut
          cases kq with
          | zero => exact absurd HA.out (by simp [stoleref13_PipeMay.j1])
          | succ kj2 =>
            have H := HA.out
            clear HA
            simp only [stoleref13_PipeMay.j1] at H
            by_cases c10 : x47_2 = true
            · subst c10
              have H1 : (some false) = some r := by rw [if_pos rfl] at H; exact H
              clear H
              have H := H1
              clear H1
              obtain rfl := Option.some.inj H
              go_wp2
              go_ret
              exact ⟨by first | rfl | (simp [errW_none, errW_some] <;> rfl) | (simp [*, errW_none, errW_some] <;> rfl), by repeat (first | (with_reducible first | exact HB.out | apply below_alloc | apply pw_below_drewN | apply below_drew1) | exact HB.out)⟩
            · replace c10 := Bool.eq_false_iff.mpr c10
              subst c10
              have H1 : (stoleref13_PipeMay.l1 kj2 l0 x3_1 0) = some r := by rw [if_neg (show ¬ (false = true) by decide)] at H; exact H
              clear H
              have H := H1
              clear H1
              have H' := am_ H
              clear H
              go_wp2
              go_loopg [4] kj2 (fun kq v4 w' => ∃ (x4_3 : Int), v4 = .int .i64 x4_3 ∧ Aside0 (stoleref13_PipeMay.l1 kq l0 x3_1 x4_3 = some r) ∧ Aside0 (kq ≤ kj2) ∧ Aside0 (Below w.heap.size w w'))
              case atStart => exact ⟨(0), (by first | rfl | (simp; done) | (simp [*]; done)), H', ⟨Nat.le_refl _⟩, ⟨by repeat (first | (with_reducible first | exact HB.out | apply below_alloc | apply pw_below_drewN | apply below_drew1) | exact HB.out)⟩⟩
              case round =>
                clear H'
                try clear c1
                try clear c2
                try clear c2b0
                try clear p2
                try clear c3
                try clear p3
                try clear q3
                try clear hx3
                try clear c4
                try clear c4b0
                try clear c6
                try clear c7
                try clear c7b0
                try clear c7b1
                try clear c8
                try clear c8b0
                try clear c9
                try clear c9b0
                try clear c9b1
                try clear c10
                try clear hx344_0
                try clear hx344_1
                try clear hx346_0
                try clear hx346_1
                try clear hx347_0
                try clear hx347_1
                try clear hx348_0
                try clear hx348_1
                try clear hx349_0
                try clear hx349_1
                try clear p2
                try clear p3
                try clear p344
                try clear p346
                try clear p347
                try clear p348
                try clear p349
                try clear q3
                try clear q344
                try clear q346
                try clear q347
                try clear q348
                try clear q349
                obtain ⟨x4_3, rfl, HA, HK3, HB⟩ := hrel
                cases gk with
                | zero => exact absurd HA.out (by simp [stoleref13_PipeMay.l1])
                | succ k3 =>
                  have H := HA.out
                  clear HA
                  simp only [stoleref13_PipeMay.l1] at H
                  by_cases c11 : 0 ≤ x3_1
                  · rw [if_pos c11] at H
                    have c11b0 : decide (0 ≤ x3_1) = true := decide_eq_true c11
                    clear c11
                    by_cases c12 : x3_1 < (l0.length : Int)
                    · rw [if_pos c12] at H
                      have c12b0 : decide (x3_1 < (l0.length : Int)) = true := decide_eq_true c12
                      clear c12
                      by_cases c13 : x4_3 < (((rd_T38 l0 x3_1).f1).length : Int)
                      · rw [if_pos c13] at H
                        have c13b0 : decide (x4_3 < (((rd_T38 l0 x3_1).f1).length : Int)) = true := decide_eq_true c13
                        clear c13
                        by_cases c14 : 0 ≤ x4_3
                        · rw [if_pos c14] at H
                          have c14b0 : decide (0 ≤ x4_3) = true := decide_eq_true c14
                          clear c14
                          replace H := Option.bind_eq_some_iff.mp H
                          obtain ⟨t353, A150, H⟩ := H
                          replace H : (if t353 = true then (stoleref13_PipeMay.l1 k3 l0 x3_1 (wrap64 (x4_3 + 1))) else (some false)) = some r := H
                          have A15 := am_ A150
                          clear A150
                          by_cases c16 : t353 = true
                          · subst c16
                            have H1 : (stoleref13_PipeMay.l1 k3 l0 x3_1 (wrap64 (x4_3 + 1))) = some r := by rw [if_pos rfl] at H; exact H
                            clear H
                            have H := H1
                            clear H1
                            have H' := am_ H
                            clear H
                            have p350 : 0 ≤ (x3_1 : Int) := of_decide_eq_true (by first | (with_reducible assumption) | assumption)
                            have q350 : x3_1 < (l0.length : Int) := of_decide_eq_true (by first | (with_reducible assumption) | assumption)
                            obtain ⟨ad350, A350_1, c350_1, e350, hx350_0, hx350_1, hl350_1, hi350_1⟩ := at_T38 HR0.out x3_1 p350 q350
                            cases e350
                            replace hx350_0 := (HB.out.cell (World.block_lt_of_cell? w _ hx350_0)).trans hx350_0
                            replace hx350_1 := (HB.out.cell (World.block_lt_of_cell? w _ hx350_1)).trans hx350_1
                            have HR350_1 := am_ hi350_1
                            have HC350_1 := am_ hl350_1
                            clear hi350_1 hl350_1
                            replace p350 := eq_true p350
                            replace q350 := eq_true q350
                            have p351 : 0 ≤ (x3_1 : Int) := of_decide_eq_true (by first | (with_reducible assumption) | assumption)
                            have q351 : x3_1 < (l0.length : Int) := of_decide_eq_true (by first | (with_reducible assumption) | assumption)
                            obtain ⟨ad351, A351_1, c351_1, e351, hx351_0, hx351_1, hl351_1, hi351_1⟩ := at_T38 HR0.out x3_1 p351 q351
                            obtain rfl : ad350 = ad351 := (by injection e351)
                            replace hx351_0 := (HB.out.cell (World.block_lt_of_cell? w _ hx351_0)).trans hx351_0
                            replace hx351_1 := (HB.out.cell (World.block_lt_of_cell? w _ hx351_1)).trans hx351_1
                            have HR351_1 := am_ hi351_1
                            have HC351_1 := am_ hl351_1
                            clear hi351_1 hl351_1
                            replace p351 := eq_true p351
                            replace q351 := eq_true q351
                            have ea_ := Option.some.inj (hx350_1.symm.trans hx351_1)
                            injection ea_ with ea_ en_ ec_
                            subst ea_
                            subst ec_
                            clear en_
                            have p352 : 0 ≤ (x4_3 : Int) := of_decide_eq_true (by first | (with_reducible assumption) | assumption)
                            have q352 : x4_3 < (((rd_T38 l0 x3_1).f1).length : Int) := of_decide_eq_true (by first | (with_reducible assumption) | assumption)
                            obtain ⟨ad352, A352_2, c352_2, e352, hx352_0, hx352_1, hx352_2, hx352_3, hx352_4, hl352_2, hi352_2⟩ := at_T41 HR351_1.out x4_3 p352 q352
                            cases e352
                            replace hx352_0 := (HB.out.cell (World.block_lt_of_cell? w _ hx352_0)).trans hx352_0
                            replace hx352_1 := (HB.out.cell (World.block_lt_of_cell? w _ hx352_1)).trans hx352_1
                            replace hx352_2 := (HB.out.cell (World.block_lt_of_cell? w _ hx352_2)).trans hx352_2
                            replace hx352_3 := (HB.out.cell (World.block_lt_of_cell? w _ hx352_3)).trans hx352_3
                            replace hx352_4 := (HB.out.cell (World.block_lt_of_cell? w _ hx352_4)).trans hx352_4
                            have HR352_2 := am_ hi352_2
                            have HC352_2 := am_ hl352_2
                            clear hi352_2 hl352_2
                            replace p352 := eq_true p352
                            replace q352 := eq_true q352
                            go_wp2_with (first | ((with_reducible refine gate_callee (f := 26) rfl ?_); refine goesL_ (some 66) rfl rfl Try.func26 (by kernel_rfl) rfl #[.agg #[.int .i64 ((rd_T41 ((rd_T38 l0 x3_1).f1) x4_3).f0), .string ((rd_T41 ((rd_T38 l0 x3_1).f1) x4_3).f1), .slice A352_2 ((rd_T41 ((rd_T38 l0 x3_1).f1) x4_3).f2).length c352_2, .int .i64 ((rd_T41 ((rd_T38 l0 x3_1).f1) x4_3).f3), .string ((rd_T41 ((rd_T38 l0 x3_1).f1) x4_3).f4)]] rfl (by (try simp only [List.map_toArray, List.map_cons, List.map_nil]); first | done | rfl | (simp only [List.length_drop, List.length_take]; rfl)) ?_; (with_reducible refine (stoleref13_argMay.calls k3 ((rd_T41 ((rd_T38 l0 x3_1).f1) x4_3).f0) ((rd_T41 ((rd_T38 l0 x3_1).f1) x4_3).f1) _ _ ((rd_T41 ((rd_T38 l0 x3_1).f1) x4_3).f2) ((rd_T41 ((rd_T38 l0 x3_1).f1) x4_3).f3) ((rd_T41 ((rd_T38 l0 x3_1).f1) x4_3).f4) true _ ?side1 ?side2 A15.out).mono ?_); (case side1 => repeat (first | exact (Kd.C_below HR352_2.out HB.out) | (with_reducible refine Kd.C_alloc ?_ _) | (with_reducible refine Kd.C_drewN ?_ _) | (with_reducible refine Kd.C_drew ?_))); (case side2 => exact HC352_2.out); rintro e w17 ⟨rfl, hb⟩; refine ⟨_, rfl, ?_⟩; have n0 := am_ (below_step (by repeat (first | (with_reducible first | exact HB.out | apply below_alloc | apply pw_below_drewN | apply below_drew1) | exact HB.out)) hb); clear HB; have HB := n0; clear n0; (try clear hb); (try clear hb2); (try clear hk); (try clear hi)))
                            go_roundg k3
                            case measure => have := HK1.out; have := HJ2.out; have := HK3.out; omega
                            case rel => exact ⟨(wrap64 (x4_3 + 1)), (by first | rfl | (simp; done) | (simp [*]; done)), H', ⟨by have := HK1.out; have := HJ2.out; have := HK3.out; omega⟩, ⟨by repeat (first | (with_reducible first | exact HB.out | apply below_alloc | apply pw_below_drewN | apply below_drew1) | exact HB.out)⟩⟩
                          · replace c16 := Bool.eq_false_iff.mpr c16
                            subst c16
                            have H1 : (some false) = some r := by rw [if_neg (show ¬ (false = true) by decide)] at H; exact H
                            clear H
                            have H := H1
                            clear H1
                            obtain rfl := Option.some.inj H
                            have p350 : 0 ≤ (x3_1 : Int) := of_decide_eq_true (by first | (with_reducible assumption) | assumption)
                            have q350 : x3_1 < (l0.length : Int) := of_decide_eq_true (by first | (with_reducible assumption) | assumption)
                            obtain ⟨ad350, A350_1, c350_1, e350, hx350_0, hx350_1, hl350_1, hi350_1⟩ := at_T38 HR0.out x3_1 p350 q350
                            cases e350
                            replace hx350_0 := (HB.out.cell (World.block_lt_of_cell? w _ hx350_0)).trans hx350_0
                            replace hx350_1 := (HB.out.cell (World.block_lt_of_cell? w _ hx350_1)).trans hx350_1
                            have HR350_1 := am_ hi350_1
                            have HC350_1 := am_ hl350_1
                            clear hi350_1 hl350_1
                            replace p350 := eq_true p350
                            replace q350 := eq_true q350
                            have p351 : 0 ≤ (x3_1 : Int) := of_decide_eq_true (by first | (with_reducible assumption) | assumption)
                            have q351 : x3_1 < (l0.length : Int) := of_decide_eq_true (by first | (with_reducible assumption) | assumption)
                            obtain ⟨ad351, A351_1, c351_1, e351, hx351_0, hx351_1, hl351_1, hi351_1⟩ := at_T38 HR0.out x3_1 p351 q351
                            obtain rfl : ad350 = ad351 := (by injection e351)
                            replace hx351_0 := (HB.out.cell (World.block_lt_of_cell? w _ hx351_0)).trans hx351_0
                            replace hx351_1 := (HB.out.cell (World.block_lt_of_cell? w _ hx351_1)).trans hx351_1
                            have HR351_1 := am_ hi351_1
                            have HC351_1 := am_ hl351_1
                            clear hi351_1 hl351_1
                            replace p351 := eq_true p351
                            replace q351 := eq_true q351
                            have ea_ := Option.some.inj (hx350_1.symm.trans hx351_1)
                            injection ea_ with ea_ en_ ec_
                            subst ea_
                            subst ec_
                            clear en_
                            have p352 : 0 ≤ (x4_3 : Int) := of_decide_eq_true (by first | (with_reducible assumption) | assumption)
                            have q352 : x4_3 < (((rd_T38 l0 x3_1).f1).length : Int) := of_decide_eq_true (by first | (with_reducible assumption) | assumption)
                            obtain ⟨ad352, A352_2, c352_2, e352, hx352_0, hx352_1, hx352_2, hx352_3, hx352_4, hl352_2, hi352_2⟩ := at_T41 HR351_1.out x4_3 p352 q352
                            cases e352
                            replace hx352_0 := (HB.out.cell (World.block_lt_of_cell? w _ hx352_0)).trans hx352_0
                            replace hx352_1 := (HB.out.cell (World.block_lt_of_cell? w _ hx352_1)).trans hx352_1
                            replace hx352_2 := (HB.out.cell (World.block_lt_of_cell? w _ hx352_2)).trans hx352_2
                            replace hx352_3 := (HB.out.cell (World.block_lt_of_cell? w _ hx352_3)).trans hx352_3
                            replace hx352_4 := (HB.out.cell (World.block_lt_of_cell? w _ hx352_4)).trans hx352_4
                            have HR352_2 := am_ hi352_2
                            have HC352_2 := am_ hl352_2
                            clear hi352_2 hl352_2
                            replace p352 := eq_true p352
                            replace q352 := eq_true q352
                            go_wp2_with (first | ((with_reducible refine gate_callee (f := 26) rfl ?_); refine goesL_ (some 66) rfl rfl Try.func26 (by kernel_rfl) rfl #[.agg #[.int .i64 ((rd_T41 ((rd_T38 l0 x3_1).f1) x4_3).f0), .string ((rd_T41 ((rd_T38 l0 x3_1).f1) x4_3).f1), .slice A352_2 ((rd_T41 ((rd_T38 l0 x3_1).f1) x4_3).f2).length c352_2, .int .i64 ((rd_T41 ((rd_T38 l0 x3_1).f1) x4_3).f3), .string ((rd_T41 ((rd_T38 l0 x3_1).f1) x4_3).f4)]] rfl (by (try simp only [List.map_toArray, List.map_cons, List.map_nil]); first | done | rfl | (simp only [List.length_drop, List.length_take]; rfl)) ?_; (with_reducible refine (stoleref13_argMay.calls k3 ((rd_T41 ((rd_T38 l0 x3_1).f1) x4_3).f0) ((rd_T41 ((rd_T38 l0 x3_1).f1) x4_3).f1) _ _ ((rd_T41 ((rd_T38 l0 x3_1).f1) x4_3).f2) ((rd_T41 ((rd_T38 l0 x3_1).f1) x4_3).f3) ((rd_T41 ((rd_T38 l0 x3_1).f1) x4_3).f4) false _ ?side1 ?side2 A15.out).mono ?_); (case side1 => repeat (first | exact (Kd.C_below HR352_2.out HB.out) | (with_reducible refine Kd.C_alloc ?_ _) | (with_reducible refine Kd.C_drewN ?_ _) | (with_reducible refine Kd.C_drew ?_))); (case side2 => exact HC352_2.out); rintro e w18 ⟨rfl, hb⟩; refine ⟨_, rfl, ?_⟩; have n0 := am_ (below_step (by repeat (first | (with_reducible first | exact HB.out | apply below_alloc | apply pw_below_drewN | apply below_drew1) | exact HB.out)) hb); clear HB; have HB := n0; clear n0; (try clear hb); (try clear hb2); (try clear hk); (try clear hi)))
                            go_ret
                            exact ⟨by first | rfl | (simp [errW_none, errW_some] <;> rfl) | (simp [*, errW_none, errW_some] <;> rfl), by repeat (first | (with_reducible first | exact HB.out | apply below_alloc | apply pw_below_drewN | apply below_drew1) | exact HB.out)⟩
                        · rw [if_neg c14] at H
                          exact absurd H (by simp)
                      · rw [if_neg c13] at H
                        have c13b0 : decide (x4_3 < (((rd_T38 l0 x3_1).f1).length : Int)) = false := decide_eq_false c13
                        clear c13
                        have H' := am_ H
                        clear H
                        have p350 : 0 ≤ (x3_1 : Int) := of_decide_eq_true (by first | (with_reducible assumption) | assumption)
                        have q350 : x3_1 < (l0.length : Int) := of_decide_eq_true (by first | (with_reducible assumption) | assumption)
                        obtain ⟨ad350, A350_1, c350_1, e350, hx350_0, hx350_1, hl350_1, hi350_1⟩ := at_T38 HR0.out x3_1 p350 q350
                        cases e350
                        replace hx350_0 := (HB.out.cell (World.block_lt_of_cell? w _ hx350_0)).trans hx350_0
                        replace hx350_1 := (HB.out.cell (World.block_lt_of_cell? w _ hx350_1)).trans hx350_1
                        have HR350_1 := am_ hi350_1
                        have HC350_1 := am_ hl350_1
                        clear hi350_1 hl350_1
                        replace p350 := eq_true p350
                        replace q350 := eq_true q350
                        go_wp2
                        go_roundg k3
                        case measure => have := HK1.out; have := HJ2.out; have := HK3.out; omega
                        case rel => exact ⟨(wrap64 (x3_1 + 1)), (by first | rfl | (simp; done) | (simp [*]; done)), H', ⟨by have := HK1.out; have := HJ2.out; have := HK3.out; omega⟩, ⟨by repeat (first | (with_reducible first | exact HB.out | apply below_alloc | apply pw_below_drewN | apply below_drew1) | exact HB.out)⟩⟩
                    · rw [if_neg c12] at H
                      exact absurd H (by simp)
                  · rw [if_neg c11] at H
                    exact absurd H (by simp)
      · rw [if_neg c2] at H
        have c2b0 : decide (x3_1 < (l0.length : Int)) = false := decide_eq_false c2
        clear c2
        by_cases c19 : (l0.length : Int) ≥ 1
        · rw [if_pos c19] at H
          have c19b0 : decide (1 ≤ (l0.length : Int)) = true := decide_eq_true c19
          have c19b1 : decide (1 ≤ l0.length) = true := decide_eq_true (by omega)
          clear c19
          obtain rfl := Option.some.inj H
          go_wp2
          go_ret
          exact ⟨by first | rfl | (simp [errW_none, errW_some] <;> rfl) | (simp [*, errW_none, errW_some] <;> rfl), by repeat (first | (with_reducible first | exact HB.out | apply below_alloc | apply pw_below_drewN | apply below_drew1) | exact HB.out)⟩
        · rw [if_neg c19] at H
          have c19b0 : decide (1 ≤ (l0.length : Int)) = false := decide_eq_false c19
          have c19b1 : decide (1 ≤ l0.length) = false := decide_eq_false (by omega)
          clear c19
          obtain rfl := Option.some.inj H
          go_wp2
          go_ret
          exact ⟨by first | rfl | (simp [errW_none, errW_some] <;> rfl) | (simp [*, errW_none, errW_some] <;> rfl), by repeat (first | (with_reducible first | exact HB.out | apply below_alloc | apply pw_below_drewN | apply below_drew1) | exact HB.out)⟩

end Go.Proofs.Ythaapadjlknieaa.Q
