-- By splice.py, a program of this session's, over the kit's print: a text of this seat's own.
import Derived.Test.YthaapadjlknieaaQ0
import Derived.Test.YthaapadjlknieaaQ2
import Derived.Test.YthaapadjlknieaaQ4
import Derived.Test.YthaapadjlknieaaPipe
namespace Go.Proofs.Ythaapadjlknieaa.Q
open Go.Proofs.Ythaapadjlknieaa.Pipe
open Go.RowKit Go.Proofs.YthaapadjlknieaaW.PrintWords Go.Proofs.YthaapadjlknieaaW.PrintLast Go.Proofs.YthaapadjlknieaaW.PrintMore
attribute [local go_sem] max2_int min2_int max_two min_two max_three min_three max_four min_four   -- for this text's walks alone
set_option linter.unusedVariables false
set_option linter.unusedSimpArgs false

/-! ### stolelaw15_PipeRows: function 5 -/
mutual
def stolelaw15_PipeRows.l0 : Nat → Int → Int → List (S45) → Int → Option (Bool)
  | 0, _, _, _, _ => none
  | k + 1, x5, x6, x7, x8 => if x8 < x5 then (if x8 > 0 then (if x7.length < 2513169434916 then (stolelaw15_PipeRows.j1 k x5 x6 (x7 ++ [(⟨5, ⟨#[]⟩, [], 0⟩ : S45)]) x8) else (none)) else (stolelaw15_PipeRows.j1 k x5 x6 x7 x8)) else ((pipe_Parse.f x7).bind fun bt179 => (if x5 > 8 then (stolelaw15_PipeRows.j3 k x5 x6 bt179.1 bt179.2 true) else (stolelaw15_PipeRows.j3 k x5 x6 bt179.1 bt179.2 (decide (x6 > 8)))))
def stolelaw15_PipeRows.j1 : Nat → Int → Int → List (S45) → Int → Option (Bool)
  | 0, _, _, _, _ => none
  | k + 1, x5, x6, x7, x8 => if x7.length < 2513169434916 then (stolelaw15_PipeRows.l1 k x5 x6 (x7 ++ [(⟨0, ⟨#[99, 97, 116]⟩, [], 0⟩ : S45)]) x8 0) else (none)
def stolelaw15_PipeRows.l1 : Nat → Int → Int → List (S45) → Int → Int → Option (Bool)
  | 0, _, _, _, _, _ => none
  | k + 1, x5, x6, x7, x8, x9 => if x9 < x6 then (if x7.length < 2513169434916 then (stolelaw15_PipeRows.l1 k x5 x6 (x7 ++ [(⟨3, ⟨#[]⟩, [], x9⟩ : S45)]) x8 (wrap64 (x9 + 1))) else (none)) else (stolelaw15_PipeRows.l0 k x5 x6 x7 (wrap64 (x8 + 1)))
def stolelaw15_PipeRows.j3 : Nat → Int → Int → List (S38) → Int → Bool → Option (Bool)
  | 0, _, _, _, _, _ => none
  | k + 1, x5, x6, x10, x11, x61 => if x61 = true then (if (x10.length : Int) = 0 then ((stolelaw0_Num.f x11).bind fun t183 => (some (t183 == 1501))) else (some false)) else ((stolelaw0_Num.f x11).bind fun t184 => (if t184 = 0 then (stolelaw15_PipeRows.j4 k x5 x6 x10 ((x10.length : Int) != x5)) else (stolelaw15_PipeRows.j4 k x5 x6 x10 true)))
def stolelaw15_PipeRows.j4 : Nat → Int → Int → List (S38) → Bool → Option (Bool)
  | 0, _, _, _, _ => none
  | k + 1, x5, x6, x10, x78 => if x78 = true then (some false) else (stolelaw15_PipeRows.l2 k x5 x6 x10 0)
def stolelaw15_PipeRows.l2 : Nat → Int → Int → List (S38) → Int → Option (Bool)
  | 0, _, _, _, _ => none
  | k + 1, x5, x6, x10, x12 => if x12 < x5 then (if 0 ≤ x12 then (if x12 < (x10.length : Int) then (if ((rd_T38 x10 x12).f0).toList = ([99, 97, 116] : List UInt8) then (stolelaw15_PipeRows.j6 k x5 x6 x10 x12 ((((rd_T38 x10 x12).f1).length : Int) != x6)) else (stolelaw15_PipeRows.j6 k x5 x6 x10 x12 true)) else (none)) else (none)) else (some true)
def stolelaw15_PipeRows.j6 : Nat → Int → Int → List (S38) → Int → Bool → Option (Bool)
  | 0, _, _, _, _, _ => none
  | k + 1, x5, x6, x10, x12, x99 => if x99 = true then (some false) else (stolelaw15_PipeRows.l3 k x5 x6 x10 x12 0)
def stolelaw15_PipeRows.l3 : Nat → Int → Int → List (S38) → Int → Int → Option (Bool)
  | 0, _, _, _, _, _ => none
  | k + 1, x5, x6, x10, x12, x13 => if x13 < x6 then (if 0 ≤ x12 then (if x12 < (x10.length : Int) then (if 0 ≤ x13 then (if x13 < (((rd_T38 x10 x12).f1).length : Int) then (if ((rd_T41 ((rd_T38 x10 x12).f1) x13).f0) = 2 then (if ((rd_T41 ((rd_T38 x10 x12).f1) x13).f3) = x13 then (if ((rd_T41 ((rd_T38 x10 x12).f1) x13).f4).toList = ([] : List UInt8) then (if ((rd_T41 ((rd_T38 x10 x12).f1) x13).f1).toList = ([] : List UInt8) then (stolelaw15_PipeRows.j8 k x5 x6 x10 x12 x13 ((((rd_T41 ((rd_T38 x10 x12).f1) x13).f2).length : Int) != 0)) else (stolelaw15_PipeRows.j8 k x5 x6 x10 x12 x13 true)) else (stolelaw15_PipeRows.j8 k x5 x6 x10 x12 x13 true)) else (stolelaw15_PipeRows.j8 k x5 x6 x10 x12 x13 true)) else (stolelaw15_PipeRows.j8 k x5 x6 x10 x12 x13 true)) else (none)) else (none)) else (none)) else (none)) else (stolelaw15_PipeRows.l2 k x5 x6 x10 (wrap64 (x12 + 1)))
def stolelaw15_PipeRows.j8 : Nat → Int → Int → List (S38) → Int → Int → Bool → Option (Bool)
  | 0, _, _, _, _, _, _ => none
  | k + 1, x5, x6, x10, x12, x13, x137 => if x137 = true then (some false) else (stolelaw15_PipeRows.l3 k x5 x6 x10 x12 (wrap64 (x13 + 1)))
end
def stolelaw15_PipeRows.f (k : Nat) (a0 : Int) (a1 : Int) : Option (Bool) := (stolelaw15_awake.f k).bind fun t169 => (if t169 = true then (stolelaw15_PipeRows.l0 k (wrap64 (1 + (wrap64 (Int.tmod (IntKind.u64.wrap (a0)) 12)))) (wrap64 (Int.tmod (IntKind.u64.wrap (a1)) 12)) ([] : List (S45)) 0) else (some false))
theorem stolelaw15_PipeRows.mono_l : ∀ k, (∀ y0 y1 y2 y3, LeO (stolelaw15_PipeRows.l0 k y0 y1 y2 y3) (stolelaw15_PipeRows.l0 (k + 1) y0 y1 y2 y3)) ∧ (∀ y0 y1 y2 y3, LeO (stolelaw15_PipeRows.j1 k y0 y1 y2 y3) (stolelaw15_PipeRows.j1 (k + 1) y0 y1 y2 y3)) ∧ (∀ y0 y1 y2 y3 y4, LeO (stolelaw15_PipeRows.l1 k y0 y1 y2 y3 y4) (stolelaw15_PipeRows.l1 (k + 1) y0 y1 y2 y3 y4)) ∧ (∀ y0 y1 y2 y3 y4, LeO (stolelaw15_PipeRows.j3 k y0 y1 y2 y3 y4) (stolelaw15_PipeRows.j3 (k + 1) y0 y1 y2 y3 y4)) ∧ (∀ y0 y1 y2 y3, LeO (stolelaw15_PipeRows.j4 k y0 y1 y2 y3) (stolelaw15_PipeRows.j4 (k + 1) y0 y1 y2 y3)) ∧ (∀ y0 y1 y2 y3, LeO (stolelaw15_PipeRows.l2 k y0 y1 y2 y3) (stolelaw15_PipeRows.l2 (k + 1) y0 y1 y2 y3)) ∧ (∀ y0 y1 y2 y3 y4, LeO (stolelaw15_PipeRows.j6 k y0 y1 y2 y3 y4) (stolelaw15_PipeRows.j6 (k + 1) y0 y1 y2 y3 y4)) ∧ (∀ y0 y1 y2 y3 y4, LeO (stolelaw15_PipeRows.l3 k y0 y1 y2 y3 y4) (stolelaw15_PipeRows.l3 (k + 1) y0 y1 y2 y3 y4)) ∧ (∀ y0 y1 y2 y3 y4 y5, LeO (stolelaw15_PipeRows.j8 k y0 y1 y2 y3 y4 y5) (stolelaw15_PipeRows.j8 (k + 1) y0 y1 y2 y3 y4 y5))
  | 0 => ⟨fun _ _ _ _ r h => by simp [stolelaw15_PipeRows.l0] at h, fun _ _ _ _ r h => by simp [stolelaw15_PipeRows.j1] at h, fun _ _ _ _ _ r h => by simp [stolelaw15_PipeRows.l1] at h, fun _ _ _ _ _ r h => by simp [stolelaw15_PipeRows.j3] at h, fun _ _ _ _ r h => by simp [stolelaw15_PipeRows.j4] at h, fun _ _ _ _ r h => by simp [stolelaw15_PipeRows.l2] at h, fun _ _ _ _ _ r h => by simp [stolelaw15_PipeRows.j6] at h, fun _ _ _ _ _ r h => by simp [stolelaw15_PipeRows.l3] at h, fun _ _ _ _ _ _ r h => by simp [stolelaw15_PipeRows.j8] at h⟩
  | k + 1 => by
    obtain ⟨ih0, ih1, ih2, ih3, ih4, ih5, ih6, ih7, ih8⟩ := stolelaw15_PipeRows.mono_l k
    refine ⟨?_, ?_, ?_, ?_, ?_, ?_, ?_, ?_, ?_⟩
    · intro y0 y1 y2 y3
      unfold stolelaw15_PipeRows.l0
      repeat' first
      | (with_reducible exact ih0 _ _ _ _)
      | (with_reducible exact ih1 _ _ _ _)
      | (with_reducible exact ih2 _ _ _ _ _)
      | (with_reducible exact ih3 _ _ _ _ _)
      | (with_reducible exact ih4 _ _ _ _)
      | (with_reducible exact ih5 _ _ _ _)
      | (with_reducible exact ih6 _ _ _ _ _)
      | (with_reducible exact ih7 _ _ _ _ _)
      | (with_reducible exact ih8 _ _ _ _ _ _)
      | (with_reducible exact stolelaw15_awake.mono _)
      | (with_reducible exact LeO.refl _)
      | (with_reducible exact LeO.none _)
      | (with_reducible refine LeO.ite ?_ ?_)
      | (with_reducible refine LeO.bind ?_ (fun _ => ?_))
      | exact ih0 _ _ _ _
      | exact ih1 _ _ _ _
      | exact ih2 _ _ _ _ _
      | exact ih3 _ _ _ _ _
      | exact ih4 _ _ _ _
      | exact ih5 _ _ _ _
      | exact ih6 _ _ _ _ _
      | exact ih7 _ _ _ _ _
      | exact ih8 _ _ _ _ _ _
      | exact stolelaw15_awake.mono _
      | exact LeO.none _
      | refine LeO.ite ?_ ?_
      | refine LeO.bind ?_ (fun _ => ?_)
    · intro y0 y1 y2 y3
      unfold stolelaw15_PipeRows.j1
      repeat' first
      | (with_reducible exact ih0 _ _ _ _)
      | (with_reducible exact ih1 _ _ _ _)
      | (with_reducible exact ih2 _ _ _ _ _)
      | (with_reducible exact ih3 _ _ _ _ _)
      | (with_reducible exact ih4 _ _ _ _)
      | (with_reducible exact ih5 _ _ _ _)
      | (with_reducible exact ih6 _ _ _ _ _)
      | (with_reducible exact ih7 _ _ _ _ _)
      | (with_reducible exact ih8 _ _ _ _ _ _)
      | (with_reducible exact stolelaw15_awake.mono _)
      | (with_reducible exact LeO.refl _)
      | (with_reducible exact LeO.none _)
      | (with_reducible refine LeO.ite ?_ ?_)
      | (with_reducible refine LeO.bind ?_ (fun _ => ?_))
      | exact ih0 _ _ _ _
      | exact ih1 _ _ _ _
      | exact ih2 _ _ _ _ _
      | exact ih3 _ _ _ _ _
      | exact ih4 _ _ _ _
      | exact ih5 _ _ _ _
      | exact ih6 _ _ _ _ _
      | exact ih7 _ _ _ _ _
      | exact ih8 _ _ _ _ _ _
      | exact stolelaw15_awake.mono _
      | exact LeO.none _
      | refine LeO.ite ?_ ?_
      | refine LeO.bind ?_ (fun _ => ?_)
    · intro y0 y1 y2 y3 y4
      unfold stolelaw15_PipeRows.l1
      repeat' first
      | (with_reducible exact ih0 _ _ _ _)
      | (with_reducible exact ih1 _ _ _ _)
      | (with_reducible exact ih2 _ _ _ _ _)
      | (with_reducible exact ih3 _ _ _ _ _)
      | (with_reducible exact ih4 _ _ _ _)
      | (with_reducible exact ih5 _ _ _ _)
      | (with_reducible exact ih6 _ _ _ _ _)
      | (with_reducible exact ih7 _ _ _ _ _)
      | (with_reducible exact ih8 _ _ _ _ _ _)
      | (with_reducible exact stolelaw15_awake.mono _)
      | (with_reducible exact LeO.refl _)
      | (with_reducible exact LeO.none _)
      | (with_reducible refine LeO.ite ?_ ?_)
      | (with_reducible refine LeO.bind ?_ (fun _ => ?_))
      | exact ih0 _ _ _ _
      | exact ih1 _ _ _ _
      | exact ih2 _ _ _ _ _
      | exact ih3 _ _ _ _ _
      | exact ih4 _ _ _ _
      | exact ih5 _ _ _ _
      | exact ih6 _ _ _ _ _
      | exact ih7 _ _ _ _ _
      | exact ih8 _ _ _ _ _ _
      | exact stolelaw15_awake.mono _
      | exact LeO.none _
      | refine LeO.ite ?_ ?_
      | refine LeO.bind ?_ (fun _ => ?_)
    · intro y0 y1 y2 y3 y4
      unfold stolelaw15_PipeRows.j3
      repeat' first
      | (with_reducible exact ih0 _ _ _ _)
      | (with_reducible exact ih1 _ _ _ _)
      | (with_reducible exact ih2 _ _ _ _ _)
      | (with_reducible exact ih3 _ _ _ _ _)
      | (with_reducible exact ih4 _ _ _ _)
      | (with_reducible exact ih5 _ _ _ _)
      | (with_reducible exact ih6 _ _ _ _ _)
      | (with_reducible exact ih7 _ _ _ _ _)
      | (with_reducible exact ih8 _ _ _ _ _ _)
      | (with_reducible exact stolelaw15_awake.mono _)
      | (with_reducible exact LeO.refl _)
      | (with_reducible exact LeO.none _)
      | (with_reducible refine LeO.ite ?_ ?_)
      | (with_reducible refine LeO.bind ?_ (fun _ => ?_))
      | exact ih0 _ _ _ _
      | exact ih1 _ _ _ _
      | exact ih2 _ _ _ _ _
      | exact ih3 _ _ _ _ _
      | exact ih4 _ _ _ _
      | exact ih5 _ _ _ _
      | exact ih6 _ _ _ _ _
      | exact ih7 _ _ _ _ _
      | exact ih8 _ _ _ _ _ _
      | exact stolelaw15_awake.mono _
      | exact LeO.none _
      | refine LeO.ite ?_ ?_
      | refine LeO.bind ?_ (fun _ => ?_)
    · intro y0 y1 y2 y3
      unfold stolelaw15_PipeRows.j4
      repeat' first
      | (with_reducible exact ih0 _ _ _ _)
      | (with_reducible exact ih1 _ _ _ _)
      | (with_reducible exact ih2 _ _ _ _ _)
      | (with_reducible exact ih3 _ _ _ _ _)
      | (with_reducible exact ih4 _ _ _ _)
      | (with_reducible exact ih5 _ _ _ _)
      | (with_reducible exact ih6 _ _ _ _ _)
      | (with_reducible exact ih7 _ _ _ _ _)
      | (with_reducible exact ih8 _ _ _ _ _ _)
      | (with_reducible exact stolelaw15_awake.mono _)
      | (with_reducible exact LeO.refl _)
      | (with_reducible exact LeO.none _)
      | (with_reducible refine LeO.ite ?_ ?_)
      | (with_reducible refine LeO.bind ?_ (fun _ => ?_))
      | exact ih0 _ _ _ _
      | exact ih1 _ _ _ _
      | exact ih2 _ _ _ _ _
      | exact ih3 _ _ _ _ _
      | exact ih4 _ _ _ _
      | exact ih5 _ _ _ _
      | exact ih6 _ _ _ _ _
      | exact ih7 _ _ _ _ _
      | exact ih8 _ _ _ _ _ _
      | exact stolelaw15_awake.mono _
      | exact LeO.none _
      | refine LeO.ite ?_ ?_
      | refine LeO.bind ?_ (fun _ => ?_)
    · intro y0 y1 y2 y3
      unfold stolelaw15_PipeRows.l2
      repeat' first
      | (with_reducible exact ih0 _ _ _ _)
      | (with_reducible exact ih1 _ _ _ _)
      | (with_reducible exact ih2 _ _ _ _ _)
      | (with_reducible exact ih3 _ _ _ _ _)
      | (with_reducible exact ih4 _ _ _ _)
      | (with_reducible exact ih5 _ _ _ _)
      | (with_reducible exact ih6 _ _ _ _ _)
      | (with_reducible exact ih7 _ _ _ _ _)
      | (with_reducible exact ih8 _ _ _ _ _ _)
      | (with_reducible exact stolelaw15_awake.mono _)
      | (with_reducible exact LeO.refl _)
      | (with_reducible exact LeO.none _)
      | (with_reducible refine LeO.ite ?_ ?_)
      | (with_reducible refine LeO.bind ?_ (fun _ => ?_))
      | exact ih0 _ _ _ _
      | exact ih1 _ _ _ _
      | exact ih2 _ _ _ _ _
      | exact ih3 _ _ _ _ _
      | exact ih4 _ _ _ _
      | exact ih5 _ _ _ _
      | exact ih6 _ _ _ _ _
      | exact ih7 _ _ _ _ _
      | exact ih8 _ _ _ _ _ _
      | exact stolelaw15_awake.mono _
      | exact LeO.none _
      | refine LeO.ite ?_ ?_
      | refine LeO.bind ?_ (fun _ => ?_)
    · intro y0 y1 y2 y3 y4
      unfold stolelaw15_PipeRows.j6
      repeat' first
      | (with_reducible exact ih0 _ _ _ _)
      | (with_reducible exact ih1 _ _ _ _)
      | (with_reducible exact ih2 _ _ _ _ _)
      | (with_reducible exact ih3 _ _ _ _ _)
      | (with_reducible exact ih4 _ _ _ _)
      | (with_reducible exact ih5 _ _ _ _)
      | (with_reducible exact ih6 _ _ _ _ _)
      | (with_reducible exact ih7 _ _ _ _ _)
      | (with_reducible exact ih8 _ _ _ _ _ _)
      | (with_reducible exact stolelaw15_awake.mono _)
      | (with_reducible exact LeO.refl _)
      | (with_reducible exact LeO.none _)
      | (with_reducible refine LeO.ite ?_ ?_)
      | (with_reducible refine LeO.bind ?_ (fun _ => ?_))
      | exact ih0 _ _ _ _
      | exact ih1 _ _ _ _
      | exact ih2 _ _ _ _ _
      | exact ih3 _ _ _ _ _
      | exact ih4 _ _ _ _
      | exact ih5 _ _ _ _
      | exact ih6 _ _ _ _ _
      | exact ih7 _ _ _ _ _
      | exact ih8 _ _ _ _ _ _
      | exact stolelaw15_awake.mono _
      | exact LeO.none _
      | refine LeO.ite ?_ ?_
      | refine LeO.bind ?_ (fun _ => ?_)
    · intro y0 y1 y2 y3 y4
      unfold stolelaw15_PipeRows.l3
      repeat' first
      | (with_reducible exact ih0 _ _ _ _)
      | (with_reducible exact ih1 _ _ _ _)
      | (with_reducible exact ih2 _ _ _ _ _)
      | (with_reducible exact ih3 _ _ _ _ _)
      | (with_reducible exact ih4 _ _ _ _)
      | (with_reducible exact ih5 _ _ _ _)
      | (with_reducible exact ih6 _ _ _ _ _)
      | (with_reducible exact ih7 _ _ _ _ _)
      | (with_reducible exact ih8 _ _ _ _ _ _)
      | (with_reducible exact stolelaw15_awake.mono _)
      | (with_reducible exact LeO.refl _)
      | (with_reducible exact LeO.none _)
      | (with_reducible refine LeO.ite ?_ ?_)
      | (with_reducible refine LeO.bind ?_ (fun _ => ?_))
      | exact ih0 _ _ _ _
      | exact ih1 _ _ _ _
      | exact ih2 _ _ _ _ _
      | exact ih3 _ _ _ _ _
      | exact ih4 _ _ _ _
      | exact ih5 _ _ _ _
      | exact ih6 _ _ _ _ _
      | exact ih7 _ _ _ _ _
      | exact ih8 _ _ _ _ _ _
      | exact stolelaw15_awake.mono _
      | exact LeO.none _
      | refine LeO.ite ?_ ?_
      | refine LeO.bind ?_ (fun _ => ?_)
    · intro y0 y1 y2 y3 y4 y5
      unfold stolelaw15_PipeRows.j8
      repeat' first
      | (with_reducible exact ih0 _ _ _ _)
      | (with_reducible exact ih1 _ _ _ _)
      | (with_reducible exact ih2 _ _ _ _ _)
      | (with_reducible exact ih3 _ _ _ _ _)
      | (with_reducible exact ih4 _ _ _ _)
      | (with_reducible exact ih5 _ _ _ _)
      | (with_reducible exact ih6 _ _ _ _ _)
      | (with_reducible exact ih7 _ _ _ _ _)
      | (with_reducible exact ih8 _ _ _ _ _ _)
      | (with_reducible exact stolelaw15_awake.mono _)
      | (with_reducible exact LeO.refl _)
      | (with_reducible exact LeO.none _)
      | (with_reducible refine LeO.ite ?_ ?_)
      | (with_reducible refine LeO.bind ?_ (fun _ => ?_))
      | exact ih0 _ _ _ _
      | exact ih1 _ _ _ _
      | exact ih2 _ _ _ _ _
      | exact ih3 _ _ _ _ _
      | exact ih4 _ _ _ _
      | exact ih5 _ _ _ _
      | exact ih6 _ _ _ _ _
      | exact ih7 _ _ _ _ _
      | exact ih8 _ _ _ _ _ _
      | exact stolelaw15_awake.mono _
      | exact LeO.none _
      | refine LeO.ite ?_ ?_
      | refine LeO.bind ?_ (fun _ => ?_)
theorem stolelaw15_PipeRows.mono : ∀ a0 a1 k, LeO (stolelaw15_PipeRows.f k a0 a1) (stolelaw15_PipeRows.f (k + 1) a0 a1) := by
  intro a0 a1 k
  obtain ⟨ih0, ih1, ih2, ih3, ih4, ih5, ih6, ih7, ih8⟩ := stolelaw15_PipeRows.mono_l k
  unfold stolelaw15_PipeRows.f
  repeat' first
      | (with_reducible exact ih0 _ _ _ _)
      | (with_reducible exact ih1 _ _ _ _)
      | (with_reducible exact ih2 _ _ _ _ _)
      | (with_reducible exact ih3 _ _ _ _ _)
      | (with_reducible exact ih4 _ _ _ _)
      | (with_reducible exact ih5 _ _ _ _)
      | (with_reducible exact ih6 _ _ _ _ _)
      | (with_reducible exact ih7 _ _ _ _ _)
      | (with_reducible exact ih8 _ _ _ _ _ _)
      | (with_reducible exact stolelaw15_awake.mono _)
      | (with_reducible exact LeO.refl _)
      | (with_reducible exact LeO.none _)
      | (with_reducible refine LeO.ite ?_ ?_)
      | (with_reducible refine LeO.bind ?_ (fun _ => ?_))
      | exact ih0 _ _ _ _
      | exact ih1 _ _ _ _
      | exact ih2 _ _ _ _ _
      | exact ih3 _ _ _ _ _
      | exact ih4 _ _ _ _
      | exact ih5 _ _ _ _
      | exact ih6 _ _ _ _ _
      | exact ih7 _ _ _ _ _
      | exact ih8 _ _ _ _ _ _
      | exact stolelaw15_awake.mono _
      | exact LeO.none _
      | refine LeO.ite ?_ ?_
      | refine LeO.bind ?_ (fun _ => ?_)
set_option maxHeartbeats 8000000 in
set_option maxRecDepth 100000 in
theorem stolelaw15_PipeRows.calls (k : Nat) (a0 : Int) (a1 : Int) (r : Bool) (w : World) (h : stolelaw15_PipeRows.f k a0 a1 = some r) :
    Calls Try.prog 5 #[.int .i64 a0, .int .i64 a1] w fun e w' => e = .returned (.bool r) ∧ Below w.heap.size w w' := by
  have hu45 := Try.underlying45
  have hu41 := Try.underlying41
  have HB := Aside0.mk (Below.refl w.heap.size w)
  have H : ((stolelaw15_awake.f k).bind fun t169 => (if t169 = true then (stolelaw15_PipeRows.l0 k (wrap64 (1 + (wrap64 (Int.tmod (IntKind.u64.wrap (a0)) 12)))) (wrap64 (Int.tmod (IntKind.u64.wrap (a1)) 12)) ([] : List (S45)) 0) else (some false))) = some r := h
  clear h
  replace H := Option.bind_eq_some_iff.mp H
  obtain ⟨t169, A30, H⟩ := H
  replace H : (if t169 = true then (stolelaw15_PipeRows.l0 k (wrap64 (1 + (wrap64 (Int.tmod (IntKind.u64.wrap (a0)) 12)))) (wrap64 (Int.tmod (IntKind.u64.wrap (a1)) 12)) ([] : List (S45)) 0) else (some false)) = some r := H
  have A3 := Aside0.mk A30
  clear A30
  by_cases c4 : t169 = true
  · subst c4
    have H1 : (stolelaw15_PipeRows.l0 k (wrap64 (1 + (wrap64 (Int.tmod (IntKind.u64.wrap (a0)) 12)))) (wrap64 (Int.tmod (IntKind.u64.wrap (a1)) 12)) ([] : List (S45)) 0) = some r := by rw [if_pos rfl] at H; exact H
    clear H
    have H := H1
    clear H1
    have H' := Aside0.mk H
    clear H
    go_enter Try.func5, Try.ntmps5
    go_wp2_with (first | ((with_reducible refine gate_callee (f := 15) rfl ?_); refine goesL_ (some 15) rfl rfl Try.func15 (by kernel_rfl) rfl #[] rfl (by (try simp only [List.map_toArray, List.map_cons, List.map_nil]); first | done | rfl | (simp only [List.length_drop, List.length_take]; rfl)) ?_; (with_reducible refine (stolelaw15_awake.calls k  true _ A3.out).mono ?_); rintro e w5 ⟨rfl, hb⟩; refine ⟨_, rfl, ?_⟩; have n0_ := Aside0.mk (below_step (by repeat (first | (with_reducible first | exact HB.out | apply below_alloc | apply pw_below_drewN | apply below_drew1) | exact HB.out)) hb); clear HB; have HB := n0_; clear n0_; (try clear hb); (try clear hb2); (try clear hk); (try clear hi)))
    go_loopg [7, 8] k (fun kq v7 v8 w' => ∃ (x7_1 : List (S45)) (x8_1 : Int), v8 = .int .i64 x8_1 ∧ Aside0 (stolelaw15_PipeRows.l0 kq (wrap64 (1 + (wrap64 (Int.tmod (IntKind.u64.wrap (a0)) 12)))) (wrap64 (Int.tmod (IntKind.u64.wrap (a1)) 12)) x7_1 x8_1 = some r) ∧ Aside0 (kq ≤ k) ∧ Aside0 (Kd.S k45 45 w' w.heap.size (fun _ => True) v7 x7_1) ∧ Aside0 (Below w.heap.size w w'))
    case atStart => exact ⟨(([] : List (S45))), (0), (by first | rfl | (simp; done) | (simp [*]; done)), H', ⟨Nat.le_refl _⟩, ⟨by first | exact Kd.S_nil _ _ _ _ _ | exact Kd.N_nil _ _ _ _ _ | exact Kd.V_nil _ _ _ _ _ | exact Kd.Q_nil _ _ _ _ _ | exact Kd.R_nil _ _ _ _ _⟩, ⟨by repeat (first | (with_reducible first | exact HB.out | apply below_alloc | apply pw_below_drewN | apply below_drew1) | exact HB.out)⟩⟩
    case round =>
      clear H'
      try clear c1
      try clear p2
      try clear c4
      try clear c5
      obtain ⟨x7_1, x8_1, rfl, HA, HK1, HO_7, HB⟩ := hrel
      cases gk with
      | zero => exact absurd HA.out (by simp [stolelaw15_PipeRows.l0])
      | succ k1 =>
        have H := HA.out
        clear HA
        simp only [stolelaw15_PipeRows.l0] at H
        by_cases c6 : x8_1 < (wrap64 (1 + (wrap64 (Int.tmod (IntKind.u64.wrap (a0)) 12))))
        · rw [if_pos c6] at H
          have c6b0 : decide (x8_1 < (wrap64 (1 + (wrap64 (Int.tmod (IntKind.u64.wrap (a0)) 12))))) = true := decide_eq_true c6
          clear c6
          have HC7 := Aside0.mk H
          clear H
          go_upto_if 32 with (fail)
          go_cut [7] (fun v7 wc => ∃ (kq : Nat) (x7_6 : List (S45)), Aside0 (stolelaw15_PipeRows.j1 kq (wrap64 (1 + (wrap64 (Int.tmod (IntKind.u64.wrap (a0)) 12)))) (wrap64 (Int.tmod (IntKind.u64.wrap (a1)) 12)) x7_6 x8_1 = some r) ∧ Aside0 (kq ≤ k1) ∧ Aside0 (Kd.S k45 45 wc w.heap.size (fun _ => True) v7 x7_6) ∧ Aside0 (Below w.heap.size w wc))
          case first =>
            have H := HC7.out
            clear HC7
            by_cases c8 : x8_1 > 0
            · rw [if_pos c8] at H
              have c8b0 : decide (0 < x8_1) = true := decide_eq_true c8
              clear c8
              (first | rw [c8b0] | (simp only [i64_w, i32_w]; rw [c8b0]) | skip)
              by_cases c9 : x7_1.length < 2513169434916
              · rw [if_pos c9] at H
                have LMc9 := Aside0.mk c9
                clear c9
                obtain ⟨y170, hy170⟩ : ∃ y_ : List (S45), y_ = (x7_1 ++ [(⟨5, ⟨#[]⟩, [], 0⟩ : S45)]) := ⟨_, rfl⟩
                replace H : (stolelaw15_PipeRows.j1 k1 (wrap64 (1 + (wrap64 (Int.tmod (IntKind.u64.wrap (a0)) 12)))) (wrap64 (Int.tmod (IntKind.u64.wrap (a1)) 12)) y170 x8_1) = some r := by first | (rw [hy170]; with_reducible exact H) | (have H2_ := (Option.bind_some _ _).symm.trans H; rw [hy170]; with_reducible exact H2_) | (have H2_ := (Option.bind_some _ _).symm.trans H; with_reducible exact H2_) | with_reducible exact H | (rw [hy170]; exact H) | exact H
                have Ny170 := Aside0.mk hy170
                clear hy170
                have H' := Aside0.mk H
                clear H
                go_wp2_with (first | ((with_reducible refine gate_builtin (b := .append) (xs := #[.tmp 33, .tmp 35]) rfl ?_); (try (refine gate_guard (by rfl) ?_; dsimp only)); at_builtin; refine Kd.S_append k45 (w0 := w) w.heap.size rfl (.tmp 33) (.tmp 35) 22 45 (.agg #[(.int .i64 0), (.string ⟨#[]⟩), (.slice none 0 0), (.int .i64 0)]) 56 rfl Try.underlying22 info45 rfl (by decide) (by omega) u7 x7_1 (⟨5, ⟨#[]⟩, [], 0⟩ : S45) [.int .i64 5, .string ⟨#[]⟩, .slice none 0 0, .int .i64 0] (fun _ => True) (fun _ => False) rfl rfl ?aP (fun k_ hk_ => hk_.elim) ?aF ?aO ?aB ?aS ?aL ?_; (case aP => exact k45_mkM _ _ _ (⟨5, ⟨#[]⟩, [], 0⟩ : S45) (Kd.R_nil _ _ _ _ _)); (case aB => exact (by repeat (first | (with_reducible first | exact HB.out | apply below_alloc | apply pw_below_drewN | apply below_drew1) | exact HB.out))); (case aF => exact (fun _ _ => trivial)); (case aO => exact (by (with_reducible repeat (first | apply Kd.S_alloc | apply Kd.S_drewN | apply Kd.S_drew)); exact Kd.S_mono HO_7.out (fun k_ hk => ⟨trivial, fun e_ => e_⟩))); (case aS => exact (below_size (by repeat (first | (with_reducible first | exact HB.out | apply below_alloc | apply pw_below_drewN | apply below_drew1) | exact HB.out)))); (case aL => have := LMc9.out; omega); intro v171 w10 ho hb hg hat; rw [← Ny170.out] at ho; have n0_ := Aside0.mk (hb); have n1_ := Aside0.mk (ho); clear HB; clear HO_7; have HB := n0_; have HO172 := n1_; clear n0_ n1_; clear ho hb hg hat))
                go_meet
                case rel => exact ⟨_, (y170), H', ⟨by have := HK1.out; first | omega | exact Nat.le_refl _⟩, ⟨by (with_reducible repeat (first | apply Kd.S_alloc | apply Kd.S_drewN | apply Kd.S_drew)); exact HO172.out⟩, ⟨by repeat (first | (with_reducible first | exact HB.out | apply below_alloc | apply pw_below_drewN | apply below_drew1) | exact HB.out)⟩⟩
              · rw [if_neg c9] at H
                exact absurd H (by simp)
            · rw [if_neg c8] at H
              have c8b0 : decide (0 < x8_1) = false := decide_eq_false c8
              clear c8
              (first | rw [c8b0] | (simp only [i64_w, i32_w]; rw [c8b0]) | skip)
              have H' := Aside0.mk H
              clear H
              go_wp2
              go_meet
              case rel => exact ⟨_, (x7_1), H', ⟨by have := HK1.out; first | omega | exact Nat.le_refl _⟩, ⟨by (with_reducible repeat (first | apply Kd.S_alloc | apply Kd.S_drewN | apply Kd.S_drew)); exact HO_7.out⟩, ⟨by repeat (first | (with_reducible first | exact HB.out | apply below_alloc | apply pw_below_drewN | apply below_drew1) | exact HB.out)⟩⟩
          case rest =>
            clear HC7
            try clear c1
            try clear p2
            try clear c4
            try clear c5
            try clear c6
            try clear c6b0
            try clear p6
            try clear c8
            try clear c8b0
            try clear c9
            try clear p2
            obtain ⟨kq, x7_6, HA, HJ6, HO_7, HB⟩ := hcut
            cases kq with
            | zero => exact absurd HA.out (by simp [stolelaw15_PipeRows.j1])
            | succ kj6 =>
              have H := HA.out
              clear HA
              simp only [stolelaw15_PipeRows.j1] at H
              by_cases c11 : x7_6.length < 2513169434916
              · rw [if_pos c11] at H
                have LMc11 := Aside0.mk c11
                clear c11
                obtain ⟨y173, hy173⟩ : ∃ y_ : List (S45), y_ = (x7_6 ++ [(⟨0, ⟨#[99, 97, 116]⟩, [], 0⟩ : S45)]) := ⟨_, rfl⟩
                replace H : (stolelaw15_PipeRows.l1 kj6 (wrap64 (1 + (wrap64 (Int.tmod (IntKind.u64.wrap (a0)) 12)))) (wrap64 (Int.tmod (IntKind.u64.wrap (a1)) 12)) y173 x8_1 0) = some r := by first | (rw [hy173]; with_reducible exact H) | (have H2_ := (Option.bind_some _ _).symm.trans H; rw [hy173]; with_reducible exact H2_) | (have H2_ := (Option.bind_some _ _).symm.trans H; with_reducible exact H2_) | with_reducible exact H | (rw [hy173]; exact H) | exact H
                have Ny173 := Aside0.mk hy173
                clear hy173
                have H' := Aside0.mk H
                clear H
                go_wp2_with (first | ((with_reducible refine gate_builtin (b := .append) (xs := #[.tmp 37, .tmp 39]) rfl ?_); (try (refine gate_guard (by rfl) ?_; dsimp only)); at_builtin; refine Kd.S_append k45 (w0 := w) w.heap.size rfl (.tmp 37) (.tmp 39) 22 45 (.agg #[(.int .i64 0), (.string ⟨#[]⟩), (.slice none 0 0), (.int .i64 0)]) 56 rfl Try.underlying22 info45 rfl (by decide) (by omega) u7 x7_6 (⟨0, ⟨#[99, 97, 116]⟩, [], 0⟩ : S45) [.int .i64 0, .string ⟨#[99, 97, 116]⟩, .slice none 0 0, .int .i64 0] (fun _ => True) (fun _ => False) rfl rfl ?aP (fun k_ hk_ => hk_.elim) ?aF ?aO ?aB ?aS ?aL ?_; (case aP => exact k45_mkM _ _ _ (⟨0, ⟨#[99, 97, 116]⟩, [], 0⟩ : S45) (Kd.R_nil _ _ _ _ _)); (case aB => exact (by repeat (first | (with_reducible first | exact HB.out | apply below_alloc | apply pw_below_drewN | apply below_drew1) | exact HB.out))); (case aF => exact (fun _ _ => trivial)); (case aO => exact (by (with_reducible repeat (first | apply Kd.S_alloc | apply Kd.S_drewN | apply Kd.S_drew)); exact Kd.S_mono HO_7.out (fun k_ hk => ⟨trivial, fun e_ => e_⟩))); (case aS => exact (below_size (by repeat (first | (with_reducible first | exact HB.out | apply below_alloc | apply pw_below_drewN | apply below_drew1) | exact HB.out)))); (case aL => have := LMc11.out; omega); intro v174 w12 ho hb hg hat; rw [← Ny173.out] at ho; have n0_ := Aside0.mk (hb); have n1_ := Aside0.mk (ho); clear HB; clear HO_7; have HB := n0_; have HO175 := n1_; clear n0_ n1_; clear ho hb hg hat))
                go_loopg [7, 9] kj6 (fun kq v7 v9 w' => ∃ (x7_3 : List (S45)) (x9_3 : Int), v9 = .int .i64 x9_3 ∧ Aside0 (stolelaw15_PipeRows.l1 kq (wrap64 (1 + (wrap64 (Int.tmod (IntKind.u64.wrap (a0)) 12)))) (wrap64 (Int.tmod (IntKind.u64.wrap (a1)) 12)) x7_3 x8_1 x9_3 = some r) ∧ Aside0 (kq ≤ kj6) ∧ Aside0 (Kd.S k45 45 w' w.heap.size (fun _ => True) v7 x7_3) ∧ Aside0 (Below w.heap.size w w'))
                case atStart => exact ⟨(y173), (0), (by first | rfl | (simp; done) | (simp [*]; done)), H', ⟨Nat.le_refl _⟩, ⟨by (with_reducible repeat (first | apply Kd.S_alloc | apply Kd.S_drewN | apply Kd.S_drew)); exact HO175.out⟩, ⟨by repeat (first | (with_reducible first | exact HB.out | apply below_alloc | apply pw_below_drewN | apply below_drew1) | exact HB.out)⟩⟩
                case round =>
                  clear H'
                  try clear c1
                  try clear p2
                  try clear c4
                  try clear c5
                  try clear c6
                  try clear c6b0
                  try clear p6
                  try clear c8
                  try clear c8b0
                  try clear c9
                  try clear c11
                  try clear p2
                  try clear p6
                  obtain ⟨x7_3, x9_3, rfl, HA, HK3, HO_7, HB⟩ := hrel
                  cases gk with
                  | zero => exact absurd HA.out (by simp [stolelaw15_PipeRows.l1])
                  | succ k3 =>
                    have H := HA.out
                    clear HA
                    simp only [stolelaw15_PipeRows.l1] at H
                    by_cases c13 : x9_3 < (wrap64 (Int.tmod (IntKind.u64.wrap (a1)) 12))
                    · rw [if_pos c13] at H
                      have c13b0 : decide (x9_3 < (wrap64 (Int.tmod (IntKind.u64.wrap (a1)) 12))) = true := decide_eq_true c13
                      clear c13
                      by_cases c14 : x7_3.length < 2513169434916
                      · rw [if_pos c14] at H
                        have LMc14 := Aside0.mk c14
                        clear c14
                        obtain ⟨y176, hy176⟩ : ∃ y_ : List (S45), y_ = (x7_3 ++ [(⟨3, ⟨#[]⟩, [], x9_3⟩ : S45)]) := ⟨_, rfl⟩
                        replace H : (stolelaw15_PipeRows.l1 k3 (wrap64 (1 + (wrap64 (Int.tmod (IntKind.u64.wrap (a0)) 12)))) (wrap64 (Int.tmod (IntKind.u64.wrap (a1)) 12)) y176 x8_1 (wrap64 (x9_3 + 1))) = some r := by first | (rw [hy176]; with_reducible exact H) | (have H2_ := (Option.bind_some _ _).symm.trans H; rw [hy176]; with_reducible exact H2_) | (have H2_ := (Option.bind_some _ _).symm.trans H; with_reducible exact H2_) | with_reducible exact H | (rw [hy176]; exact H) | exact H
                        have Ny176 := Aside0.mk hy176
                        clear hy176
                        have H' := Aside0.mk H
                        clear H
                        go_wp2_with (first | ((with_reducible refine gate_builtin (b := .append) (xs := #[.tmp 46, .tmp 49]) rfl ?_); (try (refine gate_guard (by rfl) ?_; dsimp only)); at_builtin; refine Kd.S_append k45 (w0 := w) w.heap.size rfl (.tmp 46) (.tmp 49) 22 45 (.agg #[(.int .i64 0), (.string ⟨#[]⟩), (.slice none 0 0), (.int .i64 0)]) 56 rfl Try.underlying22 info45 rfl (by decide) (by omega) u7 x7_3 (⟨3, ⟨#[]⟩, [], x9_3⟩ : S45) [.int .i64 3, .string ⟨#[]⟩, .slice none 0 0, .int .i64 x9_3] (fun _ => True) (fun _ => False) rfl rfl ?aP (fun k_ hk_ => hk_.elim) ?aF ?aO ?aB ?aS ?aL ?_; (case aP => exact k45_mkM _ _ _ (⟨3, ⟨#[]⟩, [], x9_3⟩ : S45) (Kd.R_nil _ _ _ _ _)); (case aB => exact (by repeat (first | (with_reducible first | exact HB.out | apply below_alloc | apply pw_below_drewN | apply below_drew1) | exact HB.out))); (case aF => exact (fun _ _ => trivial)); (case aO => exact (by (with_reducible repeat (first | apply Kd.S_alloc | apply Kd.S_drewN | apply Kd.S_drew)); exact Kd.S_mono HO_7.out (fun k_ hk => ⟨trivial, fun e_ => e_⟩))); (case aS => exact (below_size (by repeat (first | (with_reducible first | exact HB.out | apply below_alloc | apply pw_below_drewN | apply below_drew1) | exact HB.out)))); (case aL => have := LMc14.out; omega); intro v177 w15 ho hb hg hat; rw [← Ny176.out] at ho; have n0_ := Aside0.mk (hb); have n1_ := Aside0.mk (ho); clear HB; clear HO_7; have HB := n0_; have HO178 := n1_; clear n0_ n1_; clear ho hb hg hat))
                        go_roundg k3
                        case measure => have := HK1.out; have := HJ6.out; have := HK3.out; omega
                        case rel => exact ⟨(y176), (wrap64 (x9_3 + 1)), (by first | rfl | (simp; done) | (simp [*]; done)), H', ⟨by have := HK1.out; have := HJ6.out; have := HK3.out; omega⟩, ⟨by (with_reducible repeat (first | apply Kd.S_alloc | apply Kd.S_drewN | apply Kd.S_drew)); exact HO178.out⟩, ⟨by repeat (first | (with_reducible first | exact HB.out | apply below_alloc | apply pw_below_drewN | apply below_drew1) | exact HB.out)⟩⟩
                      · rw [if_neg c14] at H
                        exact absurd H (by simp)
                    · rw [if_neg c13] at H
                      have c13b0 : decide (x9_3 < (wrap64 (Int.tmod (IntKind.u64.wrap (a1)) 12))) = false := decide_eq_false c13
                      clear c13
                      have H' := Aside0.mk H
                      clear H
                      go_wp2
                      go_roundg k3
                      case measure => have := HK1.out; have := HJ6.out; have := HK3.out; omega
                      case rel => exact ⟨(x7_3), (wrap64 (x8_1 + 1)), (by first | rfl | (simp; done) | (simp [*]; done)), H', ⟨by have := HK1.out; have := HJ6.out; have := HK3.out; omega⟩, ⟨by (with_reducible repeat (first | apply Kd.S_alloc | apply Kd.S_drewN | apply Kd.S_drew)); exact HO_7.out⟩, ⟨by repeat (first | (with_reducible first | exact HB.out | apply below_alloc | apply pw_below_drewN | apply below_drew1) | exact HB.out)⟩⟩
              · rw [if_neg c11] at H
                exact absurd H (by simp)
        · rw [if_neg c6] at H
          have c6b0 : decide (x8_1 < (wrap64 (1 + (wrap64 (Int.tmod (IntKind.u64.wrap (a0)) 12))))) = false := decide_eq_false c6
          clear c6
          replace H := Option.bind_eq_some_iff.mp H
          obtain ⟨⟨t179, t180⟩, A160, H⟩ := H
          replace H : (if (wrap64 (1 + (wrap64 (Int.tmod (IntKind.u64.wrap (a0)) 12)))) > 8 then (stolelaw15_PipeRows.j3 k1 (wrap64 (1 + (wrap64 (Int.tmod (IntKind.u64.wrap (a0)) 12)))) (wrap64 (Int.tmod (IntKind.u64.wrap (a1)) 12)) t179 t180 true) else (stolelaw15_PipeRows.j3 k1 (wrap64 (1 + (wrap64 (Int.tmod (IntKind.u64.wrap (a0)) 12)))) (wrap64 (Int.tmod (IntKind.u64.wrap (a1)) 12)) t179 t180 (decide ((wrap64 (Int.tmod (IntKind.u64.wrap (a1)) 12)) > 8)))) = some r := H
          have A16 := Aside0.mk A160
          clear A160
          have HC17 := Aside0.mk H
          clear H
          obtain ⟨Ao18, co18, eo18⟩ := Kd.S_slice HO_7.out
          subst eo18
          go_upto_region 16 with (first | ((with_reducible refine gate_callee (f := 7) rfl ?_); refine goesL_ (some 53) rfl rfl Try.func7 (by kernel_rfl) rfl #[.slice Ao18 x7_1.length co18] rfl (by (try simp only [List.map_toArray, List.map_cons, List.map_nil]); first | done | rfl | (simp only [List.length_drop, List.length_take]; rfl)) ?_; (with_reducible refine (pipe_Parse.calls _ _ x7_1 t179 t180 _ ?side1 ?side2 A16.out).mono ?_); (case side1 => repeat (first | exact (Kd.S_reads' HO_7.out).2.2 | (with_reducible refine Kd.C_alloc ?_ _) | (with_reducible refine Kd.C_drewN ?_ _) | (with_reducible refine Kd.C_drew ?_))); (case side2 => exact (Kd.S_reads' HO_7.out).2.1); rintro e w19 ⟨v181, rfl, ho0, hb⟩; refine ⟨_, rfl, ?_⟩; have n0_ := Aside0.mk (Kd.S_below (by (with_reducible repeat (first | apply Kd.S_alloc | apply Kd.S_drewN | apply Kd.S_drew)); exact HO_7.out) hb); have n1_ := Aside0.mk (Kd.R_lower ho0 (below_size (by repeat (first | (with_reducible first | exact HB.out | apply below_alloc | apply pw_below_drewN | apply below_drew1) | exact HB.out)))); have n2_ := Aside0.mk (below_step (by repeat (first | (with_reducible first | exact HB.out | apply below_alloc | apply pw_below_drewN | apply below_drew1) | exact HB.out)) hb); clear HO_7; clear HB; have HO_7 := n0_; have HO182 := n1_; have HB := n2_; clear n0_ n1_ n2_; (try clear hb); (try clear hb2); (try clear hk); (try clear hi); (try clear ho0)))
          (try simp only [Act.put, List.setIfInBounds_toArray, List.set_cons_zero, List.set_cons_succ])
          go_cut [61] (fun v61 wc => ∃ (kq : Nat) (x61_16 : Bool), v61 = .bool x61_16 ∧ Aside0 (stolelaw15_PipeRows.j3 kq (wrap64 (1 + (wrap64 (Int.tmod (IntKind.u64.wrap (a0)) 12)))) (wrap64 (Int.tmod (IntKind.u64.wrap (a1)) 12)) t179 t180 x61_16 = some r) ∧ Aside0 (kq ≤ k1) ∧ Aside0 (Kd.R k38 38 wc w.heap.size (fun _ => True) v181 t179) ∧ Aside0 (Below w.heap.size w wc))
          case first =>
            have H := HC17.out
            clear HC17
            by_cases c20 : (wrap64 (1 + (wrap64 (Int.tmod (IntKind.u64.wrap (a0)) 12)))) > 8
            · rw [if_pos c20] at H
              have c20b0 : decide (8 < (wrap64 (1 + (wrap64 (Int.tmod (IntKind.u64.wrap (a0)) 12))))) = true := decide_eq_true c20
              clear c20
              (first | rw [c20b0] | (simp only [i64_w, i32_w]; rw [c20b0]) | skip)
              have H' := Aside0.mk H
              clear H
              go_wp2
              go_meet
              case rel => exact ⟨_, (true), (by first | rfl | (simp; done) | (simp [*]; done)), H', ⟨by have := HK1.out; first | omega | exact Nat.le_refl _⟩, ⟨by (with_reducible repeat (first | apply Kd.R_alloc | apply Kd.R_drewN | apply Kd.R_drew)); exact HO182.out⟩, ⟨by repeat (first | (with_reducible first | exact HB.out | apply below_alloc | apply pw_below_drewN | apply below_drew1) | exact HB.out)⟩⟩
            · rw [if_neg c20] at H
              have c20b0 : decide (8 < (wrap64 (1 + (wrap64 (Int.tmod (IntKind.u64.wrap (a0)) 12))))) = false := decide_eq_false c20
              clear c20
              (first | rw [c20b0] | (simp only [i64_w, i32_w]; rw [c20b0]) | skip)
              have H' := Aside0.mk H
              clear H
              go_wp2
              go_meet
              case rel => exact ⟨_, (decide ((wrap64 (Int.tmod (IntKind.u64.wrap (a1)) 12)) > 8)), (by first | rfl | (simp; done) | (simp [*]; done)), H', ⟨by have := HK1.out; first | omega | exact Nat.le_refl _⟩, ⟨by (with_reducible repeat (first | apply Kd.R_alloc | apply Kd.R_drewN | apply Kd.R_drew)); exact HO182.out⟩, ⟨by repeat (first | (with_reducible first | exact HB.out | apply below_alloc | apply pw_below_drewN | apply below_drew1) | exact HB.out)⟩⟩
          case rest =>
            clear HC17
            try clear c1
            try clear c2
            try clear p2
            try clear c4
            try clear c5
            try clear c6
            try clear c6b0
            try clear p6
            try clear c7
            try clear c8
            try clear c8b0
            try clear c9
            try clear c11
            try clear c13
            try clear c13b0
            try clear c14
            try clear c15
            try clear c20
            try clear c20b0
            try clear p2
            try clear p6
            obtain ⟨kq, x61_16, rfl, HA, HJ16, HO_10, HB⟩ := hcut
            cases kq with
            | zero => exact absurd HA.out (by simp [stolelaw15_PipeRows.j3])
            | succ kj16 =>
              have H := HA.out
              clear HA
              simp only [stolelaw15_PipeRows.j3] at H
              by_cases c21 : x61_16 = true
              · subst c21
                have H1 : (if (t179.length : Int) = 0 then ((stolelaw0_Num.f t180).bind fun t183 => (some (t183 == 1501))) else (some false)) = some r := by rw [if_pos rfl] at H; exact H
                clear H
                have H := H1
                clear H1
                by_cases c22 : (t179.length : Int) = 0
                · rw [if_pos c22] at H
                  have c22b0 : ((t179.length : Int) == 0) = true := beq_iff_eq.mpr c22
                  have c22b1 : ((t179.length : Int) != 0) = false := bne_eq_false_iff_eq.mpr c22
                  clear c22
                  replace H := Option.bind_eq_some_iff.mp H
                  obtain ⟨t183, A230, H⟩ := H
                  replace H : (some (t183 == 1501)) = some r := H
                  have A23 := Aside0.mk A230
                  clear A230
                  obtain rfl := Option.some.inj H
                  obtain ⟨Ao24, co24, eo24⟩ := Kd.R_slice HO_10.out
                  subst eo24
                  go_wp2_with (first | (go_at_call 10; (with_reducible refine (stolelaw0_Num.calls t180 t183 _ A23.out).mono ?_); rintro e w' ⟨rfl, ⟨nd, rfl⟩⟩))
                  go_ret
                  exact ⟨by first | rfl | (simp [errW_none, errW_some] <;> rfl) | (simp [*, errW_none, errW_some] <;> rfl), by repeat (first | (with_reducible first | exact HB.out | apply below_alloc | apply pw_below_drewN | apply below_drew1) | exact HB.out)⟩
                · rw [if_neg c22] at H
                  have c22b0 : ((t179.length : Int) == 0) = false := beq_eq_false_iff_ne.mpr c22
                  have c22b1 : ((t179.length : Int) != 0) = true := bne_iff_ne.mpr c22
                  have c22b2 : ¬ (t179 = []) := fun h_ => c22 (by rw [h_]; rfl)
                  obtain rfl := Option.some.inj H
                  obtain ⟨Ao25, co25, eo25⟩ := Kd.R_slice HO_10.out
                  subst eo25
                  go_wp2
                  go_ret
                  exact ⟨by first | rfl | (simp [errW_none, errW_some] <;> rfl) | (simp [*, errW_none, errW_some] <;> rfl), by repeat (first | (with_reducible first | exact HB.out | apply below_alloc | apply pw_below_drewN | apply below_drew1) | exact HB.out)⟩
              · replace c21 := Bool.eq_false_iff.mpr c21
                subst c21
                have H1 : ((stolelaw0_Num.f t180).bind fun t184 => (if t184 = 0 then (stolelaw15_PipeRows.j4 kj16 (wrap64 (1 + (wrap64 (Int.tmod (IntKind.u64.wrap (a0)) 12)))) (wrap64 (Int.tmod (IntKind.u64.wrap (a1)) 12)) t179 ((t179.length : Int) != (wrap64 (1 + (wrap64 (Int.tmod (IntKind.u64.wrap (a0)) 12)))))) else (stolelaw15_PipeRows.j4 kj16 (wrap64 (1 + (wrap64 (Int.tmod (IntKind.u64.wrap (a0)) 12)))) (wrap64 (Int.tmod (IntKind.u64.wrap (a1)) 12)) t179 true))) = some r := by rw [if_neg (show ¬ (false = true) by decide)] at H; exact H
                clear H
                have H := H1
                clear H1
                have HC26 := Aside0.mk H
                clear H
                go_upto_region 18 with (fail)
                go_cut [78] (fun v78 wc => ∃ (kq : Nat) (x78_25 : Bool), v78 = .bool x78_25 ∧ Aside0 (stolelaw15_PipeRows.j4 kq (wrap64 (1 + (wrap64 (Int.tmod (IntKind.u64.wrap (a0)) 12)))) (wrap64 (Int.tmod (IntKind.u64.wrap (a1)) 12)) t179 x78_25 = some r) ∧ Aside0 (kq ≤ kj16) ∧ Aside0 (Kd.R k38 38 wc w.heap.size (fun _ => True) v181 t179) ∧ Aside0 (Below w.heap.size w wc))
                case first =>
                  have H := HC26.out
                  clear HC26
                  replace H := Option.bind_eq_some_iff.mp H
                  obtain ⟨t184, A270, H⟩ := H
                  replace H : (if t184 = 0 then (stolelaw15_PipeRows.j4 kj16 (wrap64 (1 + (wrap64 (Int.tmod (IntKind.u64.wrap (a0)) 12)))) (wrap64 (Int.tmod (IntKind.u64.wrap (a1)) 12)) t179 ((t179.length : Int) != (wrap64 (1 + (wrap64 (Int.tmod (IntKind.u64.wrap (a0)) 12)))))) else (stolelaw15_PipeRows.j4 kj16 (wrap64 (1 + (wrap64 (Int.tmod (IntKind.u64.wrap (a0)) 12)))) (wrap64 (Int.tmod (IntKind.u64.wrap (a1)) 12)) t179 true)) = some r := H
                  have A27 := Aside0.mk A270
                  clear A270
                  by_cases c28 : t184 = 0
                  · rw [if_pos c28] at H
                    have c28b0 : (t184 == 0) = true := beq_iff_eq.mpr c28
                    have c28b1 : (t184 != 0) = false := bne_eq_false_iff_eq.mpr c28
                    clear c28
                    (first | rw [c28b0] | (simp only [i64_w, i32_w]; rw [c28b0]) | skip)
                    have H' := Aside0.mk H
                    clear H
                    go_wp2_with (first | ((with_reducible refine gate_callee (f := 10) rfl ?_); refine goesL_ (some 71) rfl rfl Try.func10 (by kernel_rfl) rfl #[.int .i64 t180] rfl (by (try simp only [List.map_toArray, List.map_cons, List.map_nil]); first | done | rfl | (simp only [List.length_drop, List.length_take]; rfl)) ?_; (with_reducible refine (stolelaw0_Num.calls t180 t184 _ A27.out).mono ?_); rintro e w' ⟨rfl, ⟨nd, rfl⟩⟩; refine ⟨_, rfl, ?_⟩; obtain ⟨Ao29, co29, eo29⟩ := Kd.R_slice HO_10.out; subst eo29))
                    go_meet
                    case rel => exact ⟨_, (((t179.length : Int) != (wrap64 (1 + (wrap64 (Int.tmod (IntKind.u64.wrap (a0)) 12)))))), (by first | rfl | (simp; done) | (simp [*]; done)), H', ⟨by have := HK1.out; have := HJ16.out; first | omega | exact Nat.le_refl _⟩, ⟨by (with_reducible repeat (first | apply Kd.R_alloc | apply Kd.R_drewN | apply Kd.R_drew)); exact HO_10.out⟩, ⟨by repeat (first | (with_reducible first | exact HB.out | apply below_alloc | apply pw_below_drewN | apply below_drew1) | exact HB.out)⟩⟩
                  · rw [if_neg c28] at H
                    have c28b0 : (t184 == 0) = false := beq_eq_false_iff_ne.mpr c28
                    have c28b1 : (t184 != 0) = true := bne_iff_ne.mpr c28
                    (first | rw [c28b0] | (simp only [i64_w, i32_w]; rw [c28b0]) | skip)
                    have H' := Aside0.mk H
                    clear H
                    go_wp2_with (first | ((with_reducible refine gate_callee (f := 10) rfl ?_); refine goesL_ (some 71) rfl rfl Try.func10 (by kernel_rfl) rfl #[.int .i64 t180] rfl (by (try simp only [List.map_toArray, List.map_cons, List.map_nil]); first | done | rfl | (simp only [List.length_drop, List.length_take]; rfl)) ?_; (with_reducible refine (stolelaw0_Num.calls t180 t184 _ A27.out).mono ?_); rintro e w' ⟨rfl, ⟨nd, rfl⟩⟩; refine ⟨_, rfl, ?_⟩))
                    go_meet
                    case rel => exact ⟨_, (true), (by first | rfl | (simp; done) | (simp [*]; done)), H', ⟨by have := HK1.out; have := HJ16.out; first | omega | exact Nat.le_refl _⟩, ⟨by (with_reducible repeat (first | apply Kd.R_alloc | apply Kd.R_drewN | apply Kd.R_drew)); exact HO_10.out⟩, ⟨by repeat (first | (with_reducible first | exact HB.out | apply below_alloc | apply pw_below_drewN | apply below_drew1) | exact HB.out)⟩⟩
                case rest =>
                  clear HC26
                  try clear c1
                  try clear c2
                  try clear p2
                  try clear c4
                  try clear c5
                  try clear c6
                  try clear c6b0
                  try clear p6
                  try clear c7
                  try clear c8
                  try clear c8b0
                  try clear c9
                  try clear c10
                  try clear c11
                  try clear c13
                  try clear c13b0
                  try clear c14
                  try clear c15
                  try clear c20
                  try clear c20b0
                  try clear c21
                  try clear c22
                  try clear c22b0
                  try clear c22b1
                  try clear c22b2
                  try clear c28
                  try clear c28b0
                  try clear c28b1
                  try clear p2
                  try clear p6
                  obtain ⟨kq, x78_25, rfl, HA, HJ25, HO_10, HB⟩ := hcut
                  cases kq with
                  | zero => exact absurd HA.out (by simp [stolelaw15_PipeRows.j4])
                  | succ kj25 =>
                    have H := HA.out
                    clear HA
                    simp only [stolelaw15_PipeRows.j4] at H
                    by_cases c30 : x78_25 = true
                    · subst c30
                      have H1 : (some false) = some r := by rw [if_pos rfl] at H; exact H
                      clear H
                      have H := H1
                      clear H1
                      obtain rfl := Option.some.inj H
                      go_wp2
                      go_ret
                      exact ⟨by first | rfl | (simp [errW_none, errW_some] <;> rfl) | (simp [*, errW_none, errW_some] <;> rfl), by repeat (first | (with_reducible first | exact HB.out | apply below_alloc | apply pw_below_drewN | apply below_drew1) | exact HB.out)⟩
                    · replace c30 := Bool.eq_false_iff.mpr c30
                      subst c30
                      have H1 : (stolelaw15_PipeRows.l2 kj25 (wrap64 (1 + (wrap64 (Int.tmod (IntKind.u64.wrap (a0)) 12)))) (wrap64 (Int.tmod (IntKind.u64.wrap (a1)) 12)) t179 0) = some r := by rw [if_neg (show ¬ (false = true) by decide)] at H; exact H
                      clear H
                      have H := H1
                      clear H1
                      have H' := Aside0.mk H
                      clear H
                      go_wp2
                      go_loopg [12] kj25 (fun kq v12 w' => ∃ (x12_4 : Int), v12 = .int .i64 x12_4 ∧ Aside0 (stolelaw15_PipeRows.l2 kq (wrap64 (1 + (wrap64 (Int.tmod (IntKind.u64.wrap (a0)) 12)))) (wrap64 (Int.tmod (IntKind.u64.wrap (a1)) 12)) t179 x12_4 = some r) ∧ Aside0 (kq ≤ kj25) ∧ Aside0 (Kd.R k38 38 w' w.heap.size (fun _ => True) v181 t179) ∧ Aside0 (Below w.heap.size w w'))
                      case atStart => exact ⟨(0), (by first | rfl | (simp; done) | (simp [*]; done)), H', ⟨Nat.le_refl _⟩, ⟨by (with_reducible repeat (first | apply Kd.R_alloc | apply Kd.R_drewN | apply Kd.R_drew)); exact HO_10.out⟩, ⟨by repeat (first | (with_reducible first | exact HB.out | apply below_alloc | apply pw_below_drewN | apply below_drew1) | exact HB.out)⟩⟩
                      case round =>
                        clear H'
                        try clear c1
                        try clear c2
                        try clear p2
                        try clear c3
                        try clear c4
                        try clear c5
                        try clear c6
                        try clear c6b0
                        try clear p6
                        try clear c7
                        try clear c8
                        try clear c8b0
                        try clear c9
                        try clear c10
                        try clear c11
                        try clear c13
                        try clear c13b0
                        try clear c14
                        try clear c15
                        try clear c20
                        try clear c20b0
                        try clear c21
                        try clear c22
                        try clear c22b0
                        try clear c22b1
                        try clear c22b2
                        try clear c28
                        try clear c28b0
                        try clear c28b1
                        try clear c30
                        try clear p2
                        try clear p6
                        obtain ⟨x12_4, rfl, HA, HK4, HO_10, HB⟩ := hrel
                        cases gk with
                        | zero => exact absurd HA.out (by simp [stolelaw15_PipeRows.l2])
                        | succ k4 =>
                          have H := HA.out
                          clear HA
                          simp only [stolelaw15_PipeRows.l2] at H
                          by_cases c31 : x12_4 < (wrap64 (1 + (wrap64 (Int.tmod (IntKind.u64.wrap (a0)) 12))))
                          · rw [if_pos c31] at H
                            have c31b0 : decide (x12_4 < (wrap64 (1 + (wrap64 (Int.tmod (IntKind.u64.wrap (a0)) 12))))) = true := decide_eq_true c31
                            clear c31
                            have HC32 := Aside0.mk H
                            clear H
                            go_upto_region 23 with (fail)
                            go_cut [99] (fun v99 wc => ∃ (kq : Nat) (x99_31 : Bool), v99 = .bool x99_31 ∧ Aside0 (stolelaw15_PipeRows.j6 kq (wrap64 (1 + (wrap64 (Int.tmod (IntKind.u64.wrap (a0)) 12)))) (wrap64 (Int.tmod (IntKind.u64.wrap (a1)) 12)) t179 x12_4 x99_31 = some r) ∧ Aside0 (kq ≤ k4) ∧ Aside0 (Kd.R k38 38 wc w.heap.size (fun _ => True) v181 t179) ∧ Aside0 (Below w.heap.size w wc))
                            case first =>
                              have H := HC32.out
                              clear HC32
                              by_cases c33 : 0 ≤ x12_4
                              · rw [if_pos c33] at H
                                have c33b0 : decide (0 ≤ x12_4) = true := decide_eq_true c33
                                clear c33
                                (first | rw [c33b0] | (simp only [i64_w, i32_w]; rw [c33b0]) | skip)
                                by_cases c34 : x12_4 < (t179.length : Int)
                                · rw [if_pos c34] at H
                                  have c34b0 : decide (x12_4 < (t179.length : Int)) = true := decide_eq_true c34
                                  clear c34
                                  by_cases c35 : ((rd_T38 t179 x12_4).f0).toList = ([99, 97, 116] : List UInt8)
                                  · rw [if_pos c35] at H
                                    have c35b0 : (((rd_T38 t179 x12_4).f0).toList == ([99, 97, 116] : List UInt8)) = true := beq_iff_eq.mpr c35
                                    have c35b1 : (((rd_T38 t179 x12_4).f0).toList != ([99, 97, 116] : List UInt8)) = false := bne_eq_false_iff_eq.mpr c35
                                    clear c35
                                    have H' := Aside0.mk H
                                    clear H
                                    obtain ⟨Ao36, co36, eo36⟩ := Kd.R_slice HO_10.out
                                    subst eo36
                                    have p185 : 0 ≤ (x12_4 : Int) := of_decide_eq_true (by first | (with_reducible assumption) | assumption)
                                    have q185 : x12_4 < (t179.length : Int) := of_decide_eq_true (by first | (with_reducible assumption) | assumption)
                                    obtain ⟨ad185, A185_1, c185_1, e185, hx185_0, hx185_1, hl185_1, hi185_1⟩ := at_T38 (Kd.R_reads' HO_10.out).2.2 x12_4 p185 q185
                                    cases e185
                                    obtain ⟨ce185, hce185, hMe185, hcc185⟩ := Kd.R_get HO_10.out z38 x12_4 p185 (by first | exact q185 | exact of_decide_eq_true (by first | (with_reducible assumption) | assumption) | (have e_ := (Kd.R_reads' HO_10.out).1; omega))
                                    obtain ⟨ve185_1, rfl, ge185_1⟩ := k38_openM hMe185
                                    have hv185_1 := hcc185 1 _ rfl
                                    rw [add_field _ _ 1 (by omega)] at hv185_1
                                    replace hv185_1 := Option.some.inj (hv185_1.symm.trans hx185_1)
                                    rw [hv185_1] at ge185_1
                                    have HL185_1 := Aside0.mk (show Kd.R k41 41 _ _ _ _ ((rd_T38 t179 x12_4).f1) from ge185_1)
                                    clear hv185_1 ge185_1
                                    clear hcc185 hce185
                                    have HR185_1 := Aside0.mk hi185_1
                                    have HC185_1 := Aside0.mk hl185_1
                                    clear hi185_1 hl185_1
                                    replace p185 := eq_true p185
                                    replace q185 := eq_true q185
                                    have p186 : 0 ≤ (x12_4 : Int) := of_decide_eq_true (by first | (with_reducible assumption) | assumption)
                                    have q186 : x12_4 < (t179.length : Int) := of_decide_eq_true (by first | (with_reducible assumption) | assumption)
                                    obtain ⟨ad186, A186_1, c186_1, e186, hx186_0, hx186_1, hl186_1, hi186_1⟩ := at_T38 (Kd.R_reads' HO_10.out).2.2 x12_4 p186 q186
                                    obtain rfl : ad185 = ad186 := (by injection e186)
                                    obtain ⟨ce186, hce186, hMe186, hcc186⟩ := Kd.R_get HO_10.out z38 x12_4 p186 (by first | exact q186 | exact of_decide_eq_true (by first | (with_reducible assumption) | assumption) | (have e_ := (Kd.R_reads' HO_10.out).1; omega))
                                    obtain ⟨ve186_1, rfl, ge186_1⟩ := k38_openM hMe186
                                    have hv186_1 := hcc186 1 _ rfl
                                    rw [add_field _ _ 1 (by omega)] at hv186_1
                                    replace hv186_1 := Option.some.inj (hv186_1.symm.trans hx186_1)
                                    rw [hv186_1] at ge186_1
                                    have HL186_1 := Aside0.mk (show Kd.R k41 41 _ _ _ _ ((rd_T38 t179 x12_4).f1) from ge186_1)
                                    clear hv186_1 ge186_1
                                    clear hcc186 hce186
                                    have HR186_1 := Aside0.mk hi186_1
                                    have HC186_1 := Aside0.mk hl186_1
                                    clear hi186_1 hl186_1
                                    replace p186 := eq_true p186
                                    replace q186 := eq_true q186
                                    have ea_ := Option.some.inj (hx185_1.symm.trans hx186_1)
                                    injection ea_ with ea_ en_ ec_
                                    subst ea_
                                    subst ec_
                                    clear en_
                                    go_wp2
                                    go_meet
                                    case rel => exact ⟨_, (((((rd_T38 t179 x12_4).f1).length : Int) != (wrap64 (Int.tmod (IntKind.u64.wrap (a1)) 12)))), (by first | rfl | (simp; done) | (simp [*]; done)), H', ⟨by have := HK1.out; have := HJ16.out; have := HJ25.out; have := HK4.out; first | omega | exact Nat.le_refl _⟩, ⟨by (with_reducible repeat (first | apply Kd.R_alloc | apply Kd.R_drewN | apply Kd.R_drew)); exact HO_10.out⟩, ⟨by repeat (first | (with_reducible first | exact HB.out | apply below_alloc | apply pw_below_drewN | apply below_drew1) | exact HB.out)⟩⟩
                                  · rw [if_neg c35] at H
                                    have c35b0 : (((rd_T38 t179 x12_4).f0).toList == ([99, 97, 116] : List UInt8)) = false := beq_eq_false_iff_ne.mpr c35
                                    have c35b1 : (((rd_T38 t179 x12_4).f0).toList != ([99, 97, 116] : List UInt8)) = true := bne_iff_ne.mpr c35
                                    have H' := Aside0.mk H
                                    clear H
                                    obtain ⟨Ao37, co37, eo37⟩ := Kd.R_slice HO_10.out
                                    subst eo37
                                    have p185 : 0 ≤ (x12_4 : Int) := of_decide_eq_true (by first | (with_reducible assumption) | assumption)
                                    have q185 : x12_4 < (t179.length : Int) := of_decide_eq_true (by first | (with_reducible assumption) | assumption)
                                    obtain ⟨ad185, A185_1, c185_1, e185, hx185_0, hx185_1, hl185_1, hi185_1⟩ := at_T38 (Kd.R_reads' HO_10.out).2.2 x12_4 p185 q185
                                    cases e185
                                    obtain ⟨ce185, hce185, hMe185, hcc185⟩ := Kd.R_get HO_10.out z38 x12_4 p185 (by first | exact q185 | exact of_decide_eq_true (by first | (with_reducible assumption) | assumption) | (have e_ := (Kd.R_reads' HO_10.out).1; omega))
                                    obtain ⟨ve185_1, rfl, ge185_1⟩ := k38_openM hMe185
                                    have hv185_1 := hcc185 1 _ rfl
                                    rw [add_field _ _ 1 (by omega)] at hv185_1
                                    replace hv185_1 := Option.some.inj (hv185_1.symm.trans hx185_1)
                                    rw [hv185_1] at ge185_1
                                    have HL185_1 := Aside0.mk (show Kd.R k41 41 _ _ _ _ ((rd_T38 t179 x12_4).f1) from ge185_1)
                                    clear hv185_1 ge185_1
                                    clear hcc185 hce185
                                    have HR185_1 := Aside0.mk hi185_1
                                    have HC185_1 := Aside0.mk hl185_1
                                    clear hi185_1 hl185_1
                                    replace p185 := eq_true p185
                                    replace q185 := eq_true q185
                                    go_wp2
                                    go_meet
                                    case rel => exact ⟨_, (true), (by first | rfl | (simp; done) | (simp [*]; done)), H', ⟨by have := HK1.out; have := HJ16.out; have := HJ25.out; have := HK4.out; first | omega | exact Nat.le_refl _⟩, ⟨by (with_reducible repeat (first | apply Kd.R_alloc | apply Kd.R_drewN | apply Kd.R_drew)); exact HO_10.out⟩, ⟨by repeat (first | (with_reducible first | exact HB.out | apply below_alloc | apply pw_below_drewN | apply below_drew1) | exact HB.out)⟩⟩
                                · rw [if_neg c34] at H
                                  exact absurd H (by simp)
                              · rw [if_neg c33] at H
                                exact absurd H (by simp)
                            case rest =>
                              clear HC32
                              try clear c1
                              try clear p1
                              try clear q1
                              try clear hx1
                              try clear c2
                              try clear p2
                              try clear c3
                              try clear c4
                              try clear c5
                              try clear c6
                              try clear c6b0
                              try clear p6
                              try clear c7
                              try clear c8
                              try clear c8b0
                              try clear c9
                              try clear c10
                              try clear c11
                              try clear c13
                              try clear c13b0
                              try clear c14
                              try clear c15
                              try clear c18
                              try clear p18
                              try clear q18
                              try clear hx18
                              try clear c20
                              try clear c20b0
                              try clear c21
                              try clear c22
                              try clear c22b0
                              try clear c22b1
                              try clear c22b2
                              try clear c28
                              try clear c28b0
                              try clear c28b1
                              try clear c30
                              try clear c31
                              try clear c31b0
                              try clear c33
                              try clear c33b0
                              try clear c34
                              try clear c34b0
                              try clear c35
                              try clear c35b0
                              try clear c35b1
                              try clear hx185_0
                              try clear hx185_1
                              try clear hx186_0
                              try clear hx186_1
                              try clear p185
                              try clear p186
                              try clear p2
                              try clear p6
                              try clear q185
                              try clear q186
                              obtain ⟨kq, x99_31, rfl, HA, HJ31, HO_10, HB⟩ := hcut
                              cases kq with
                              | zero => exact absurd HA.out (by simp [stolelaw15_PipeRows.j6])
                              | succ kj31 =>
                                have H := HA.out
                                clear HA
                                simp only [stolelaw15_PipeRows.j6] at H
                                by_cases c38 : x99_31 = true
                                · subst c38
                                  have H1 : (some false) = some r := by rw [if_pos rfl] at H; exact H
                                  clear H
                                  have H := H1
                                  clear H1
                                  obtain rfl := Option.some.inj H
                                  go_wp2
                                  go_ret
                                  exact ⟨by first | rfl | (simp [errW_none, errW_some] <;> rfl) | (simp [*, errW_none, errW_some] <;> rfl), by repeat (first | (with_reducible first | exact HB.out | apply below_alloc | apply pw_below_drewN | apply below_drew1) | exact HB.out)⟩
                                · replace c38 := Bool.eq_false_iff.mpr c38
                                  subst c38
                                  have H1 : (stolelaw15_PipeRows.l3 kj31 (wrap64 (1 + (wrap64 (Int.tmod (IntKind.u64.wrap (a0)) 12)))) (wrap64 (Int.tmod (IntKind.u64.wrap (a1)) 12)) t179 x12_4 0) = some r := by rw [if_neg (show ¬ (false = true) by decide)] at H; exact H
                                  clear H
                                  have H := H1
                                  clear H1
                                  have H' := Aside0.mk H
                                  clear H
                                  go_wp2
                                  go_loopg [13] kj31 (fun kq v13 w' => ∃ (x13_6 : Int), v13 = .int .i64 x13_6 ∧ Aside0 (stolelaw15_PipeRows.l3 kq (wrap64 (1 + (wrap64 (Int.tmod (IntKind.u64.wrap (a0)) 12)))) (wrap64 (Int.tmod (IntKind.u64.wrap (a1)) 12)) t179 x12_4 x13_6 = some r) ∧ Aside0 (kq ≤ kj31) ∧ Aside0 (Kd.R k38 38 w' w.heap.size (fun _ => True) v181 t179) ∧ Aside0 (Below w.heap.size w w'))
                                  case atStart => exact ⟨(0), (by first | rfl | (simp; done) | (simp [*]; done)), H', ⟨Nat.le_refl _⟩, ⟨by (with_reducible repeat (first | apply Kd.R_alloc | apply Kd.R_drewN | apply Kd.R_drew)); exact HO_10.out⟩, ⟨by repeat (first | (with_reducible first | exact HB.out | apply below_alloc | apply pw_below_drewN | apply below_drew1) | exact HB.out)⟩⟩
                                  case round =>
                                    clear H'
                                    try clear c1
                                    try clear p1
                                    try clear q1
                                    try clear hx1
                                    try clear c2
                                    try clear p2
                                    try clear c3
                                    try clear c4
                                    try clear c5
                                    try clear c6
                                    try clear c6b0
                                    try clear p6
                                    try clear c7
                                    try clear c8
                                    try clear c8b0
                                    try clear c9
                                    try clear c10
                                    try clear c11
                                    try clear c13
                                    try clear c13b0
                                    try clear c14
                                    try clear c15
                                    try clear c18
                                    try clear p18
                                    try clear q18
                                    try clear hx18
                                    try clear c20
                                    try clear c20b0
                                    try clear c21
                                    try clear c22
                                    try clear c22b0
                                    try clear c22b1
                                    try clear c22b2
                                    try clear c28
                                    try clear c28b0
                                    try clear c28b1
                                    try clear c30
                                    try clear c31
                                    try clear c31b0
                                    try clear c33
                                    try clear c33b0
                                    try clear c34
                                    try clear c34b0
                                    try clear c35
                                    try clear c35b0
                                    try clear c35b1
                                    try clear c38
                                    try clear hx185_0
                                    try clear hx185_1
                                    try clear hx186_0
                                    try clear hx186_1
                                    try clear p1
                                    try clear p18
                                    try clear p185
                                    try clear p186
                                    try clear p2
                                    try clear p6
                                    try clear q1
                                    try clear q18
                                    try clear q185
                                    try clear q186
                                    obtain ⟨x13_6, rfl, HA, HK6, HO_10, HB⟩ := hrel
                                    cases gk with
                                    | zero => exact absurd HA.out (by simp [stolelaw15_PipeRows.l3])
                                    | succ k6 =>
                                      have H := HA.out
                                      clear HA
                                      simp only [stolelaw15_PipeRows.l3] at H
                                      by_cases c39 : x13_6 < (wrap64 (Int.tmod (IntKind.u64.wrap (a1)) 12))
                                      · rw [if_pos c39] at H
                                        have c39b0 : decide (x13_6 < (wrap64 (Int.tmod (IntKind.u64.wrap (a1)) 12))) = true := decide_eq_true c39
                                        clear c39
                                        by_cases c40 : 0 ≤ x12_4
                                        · rw [if_pos c40] at H
                                          have c40b0 : decide (0 ≤ x12_4) = true := decide_eq_true c40
                                          clear c40
                                          by_cases c41 : x12_4 < (t179.length : Int)
                                          · rw [if_pos c41] at H
                                            have c41b0 : decide (x12_4 < (t179.length : Int)) = true := decide_eq_true c41
                                            clear c41
                                            by_cases c42 : 0 ≤ x13_6
                                            · rw [if_pos c42] at H
                                              have c42b0 : decide (0 ≤ x13_6) = true := decide_eq_true c42
                                              clear c42
                                              by_cases c43 : x13_6 < (((rd_T38 t179 x12_4).f1).length : Int)
                                              · rw [if_pos c43] at H
                                                have c43b0 : decide (x13_6 < (((rd_T38 t179 x12_4).f1).length : Int)) = true := decide_eq_true c43
                                                clear c43
                                                have HC44 := Aside0.mk H
                                                clear H
                                                obtain ⟨Ao45, co45, eo45⟩ := Kd.R_slice HO_10.out
                                                subst eo45
                                                have p187 : 0 ≤ (x12_4 : Int) := of_decide_eq_true (by first | (with_reducible assumption) | assumption)
                                                have q187 : x12_4 < (t179.length : Int) := of_decide_eq_true (by first | (with_reducible assumption) | assumption)
                                                obtain ⟨ad187, A187_1, c187_1, e187, hx187_0, hx187_1, hl187_1, hi187_1⟩ := at_T38 (Kd.R_reads' HO_10.out).2.2 x12_4 p187 q187
                                                cases e187
                                                obtain ⟨ce187, hce187, hMe187, hcc187⟩ := Kd.R_get HO_10.out z38 x12_4 p187 (by first | exact q187 | exact of_decide_eq_true (by first | (with_reducible assumption) | assumption) | (have e_ := (Kd.R_reads' HO_10.out).1; omega))
                                                obtain ⟨ve187_1, rfl, ge187_1⟩ := k38_openM hMe187
                                                have hv187_1 := hcc187 1 _ rfl
                                                rw [add_field _ _ 1 (by omega)] at hv187_1
                                                replace hv187_1 := Option.some.inj (hv187_1.symm.trans hx187_1)
                                                rw [hv187_1] at ge187_1
                                                have HL187_1 := Aside0.mk (show Kd.R k41 41 _ _ _ _ ((rd_T38 t179 x12_4).f1) from ge187_1)
                                                clear hv187_1 ge187_1
                                                clear hcc187 hce187
                                                have HR187_1 := Aside0.mk hi187_1
                                                have HC187_1 := Aside0.mk hl187_1
                                                clear hi187_1 hl187_1
                                                replace p187 := eq_true p187
                                                replace q187 := eq_true q187
                                                have p188 : 0 ≤ (x13_6 : Int) := of_decide_eq_true (by first | (with_reducible assumption) | assumption)
                                                have q188 : x13_6 < (((rd_T38 t179 x12_4).f1).length : Int) := of_decide_eq_true (by first | (with_reducible assumption) | assumption)
                                                obtain ⟨ad188, A188_2, c188_2, e188, hx188_0, hx188_1, hx188_2, hx188_3, hx188_4, hl188_2, hi188_2⟩ := at_T41 (by repeat (first | (with_reducible exact HR187_1.out) | (with_reducible refine Kd.C_alloc ?_ _) | (with_reducible refine Kd.C_drewN ?_ _) | (with_reducible refine Kd.C_drew ?_) | exact HR187_1.out)) x13_6 p188 q188
                                                cases e188
                                                obtain ⟨ce188, hce188, hMe188, hcc188⟩ := Kd.R_get HL187_1.out z41 x13_6 p188 (by first | exact q188 | exact of_decide_eq_true (by first | (with_reducible assumption) | assumption) | (have e_ := (Kd.R_reads' HL187_1.out).1; omega))
                                                obtain ⟨ve188_2, rfl, ge188_2⟩ := k41_openM hMe188
                                                have hv188_2 := hcc188 2 _ rfl
                                                rw [add_field _ _ 2 (by omega)] at hv188_2
                                                replace hv188_2 := Option.some.inj (hv188_2.symm.trans hx188_2)
                                                rw [hv188_2] at ge188_2
                                                have HL188_2 := Aside0.mk (show Kd.R Kd.string 9 _ _ _ _ ((rd_T41 ((rd_T38 t179 x12_4).f1) x13_6).f2) from ge188_2)
                                                clear hv188_2 ge188_2
                                                clear hcc188 hce188
                                                have HR188_2 := Aside0.mk hi188_2
                                                have HC188_2 := Aside0.mk hl188_2
                                                clear hi188_2 hl188_2
                                                replace p188 := eq_true p188
                                                replace q188 := eq_true q188
                                                go_upto_region 29 with (first | ((with_reducible refine gate_dst (N := 14) rfl ?_); (try (refine gate_guard (by rfl) ?_; dsimp only)); refine box_event ?hg (N := 14) ?hd (cs := #[.int .i64 0, .string ⟨#[]⟩, .slice none 0 0, .int .i64 0, .string ⟨#[]⟩]) (t := 41) ?hr ?_; (case hd => rfl); (case hg => rfl); (case hr => first | (go_simp; done) | (go_simp; rfl)); intro gb189 hg w46 hbox hb; have n0_ := Aside0.mk (Kd.R_below (Kd.R_elderB (by (with_reducible repeat (first | apply Kd.R_alloc | apply Kd.R_drewN | apply Kd.R_drew)); exact HO_10.out) gb189 (Nat.le_of_eq hg.symm)) hb); have n1_ := Aside0.mk (Kd.R_below (Kd.R_elderB (by (with_reducible repeat (first | apply Kd.R_alloc | apply Kd.R_drewN | apply Kd.R_drew)); exact HL187_1.out) gb189 (Nat.le_of_eq hg.symm)) hb); have n2_ := Aside0.mk (Kd.R_below (by (with_reducible repeat (first | apply Kd.R_alloc | apply Kd.R_drewN | apply Kd.R_drew)); exact HL188_2.out) hb); have n3_ := Aside0.mk (Kd.C_below (by repeat (first | (with_reducible exact HR187_1.out) | (with_reducible refine Kd.C_alloc ?_ _) | (with_reducible refine Kd.C_drewN ?_ _) | (with_reducible refine Kd.C_drew ?_) | exact HR187_1.out)) hb); have n4_ := Aside0.mk (Kd.C_below (by repeat (first | (with_reducible exact HR188_2.out) | (with_reducible refine Kd.C_alloc ?_ _) | (with_reducible refine Kd.C_drewN ?_ _) | (with_reducible refine Kd.C_drew ?_) | exact HR188_2.out)) hb); have n5_ := Aside0.mk (below_step (by repeat (first | (with_reducible first | exact HB.out | apply below_alloc | apply pw_below_drewN | apply below_drew1) | exact HB.out)) hb); have n6_ := Aside0.mk (hbox); have n7_ := Aside0.mk ((by rw [hg]; exact (below_size (by repeat (first | (with_reducible first | exact HB.out | apply below_alloc | apply pw_below_drewN | apply below_drew1) | exact HB.out))) : w.heap.size ≤ gb189)); have n8_ := n7_; clear HO_10; clear HL187_1; clear HL188_2; clear HR187_1; clear HR188_2; clear HB; have HO_10 := n0_; have HL187_1 := n1_; have HL188_2 := n2_; have HR187_1 := n3_; have HR188_2 := n4_; have HB := n5_; have BK189 := n6_; have GW189 := n7_; have GE189 := n8_; clear n0_ n1_ n2_ n3_ n4_ n5_ n6_ n7_ n8_; clear hb hbox hg; have hcz47_0 : w46.cell? ⟨gb189, 0, none⟩ = some (.int .i64 0) := (blk_cell BK189.out 0).trans rfl; have hcz47_1 : w46.cell? ⟨gb189, 1, none⟩ = some (.string ⟨#[]⟩) := (blk_cell BK189.out 1).trans rfl; have hcz47_2 : w46.cell? ⟨gb189, 2, none⟩ = some (.slice none 0 0) := (blk_cell BK189.out 2).trans rfl; have hcz47_3 : w46.cell? ⟨gb189, 3, none⟩ = some (.int .i64 0) := (blk_cell BK189.out 3).trans rfl; have hcz47_4 : w46.cell? ⟨gb189, 4, none⟩ = some (.string ⟨#[]⟩) := (blk_cell BK189.out 4).trans rfl; have hfz47_0 := blk_frozen BK189.out 0; have hfz47_1 := blk_frozen BK189.out 1; have hfz47_2 := blk_frozen BK189.out 2; have hfz47_3 := blk_frozen BK189.out 3; have hfz47_4 := blk_frozen BK189.out 4))
                                                (try simp only [Act.put, List.setIfInBounds_toArray, List.set_cons_zero, List.set_cons_succ])
                                                go_cut [137] (fun v137 wc => ∃ (kq : Nat) (x137_43 : Bool), v137 = .bool x137_43 ∧ Aside0 (stolelaw15_PipeRows.j8 kq (wrap64 (1 + (wrap64 (Int.tmod (IntKind.u64.wrap (a0)) 12)))) (wrap64 (Int.tmod (IntKind.u64.wrap (a1)) 12)) t179 x12_4 x13_6 x137_43 = some r) ∧ Aside0 (kq ≤ k6) ∧ Aside0 (Kd.R k38 38 wc w.heap.size (fun _ => True) (.slice (some ad187) t179.length co45) t179) ∧ Aside0 (Kd.C k41 wc (some ad188) ((rd_T38 t179 x12_4).f1).length ((rd_T38 t179 x12_4).f1)) ∧ Aside0 (Kd.C Kd.string wc A188_2 ((rd_T41 ((rd_T38 t179 x12_4).f1) x13_6).f2).length ((rd_T41 ((rd_T38 t179 x12_4).f1) x13_6).f2)) ∧ Aside0 (Below w.heap.size w wc))
                                                case first =>
                                                  have H := HC44.out
                                                  clear HC44
                                                  by_cases c48 : ((rd_T41 ((rd_T38 t179 x12_4).f1) x13_6).f0) = 2
                                                  · rw [if_pos c48] at H
                                                    have c48b0 : (((rd_T41 ((rd_T38 t179 x12_4).f1) x13_6).f0) == 2) = true := beq_iff_eq.mpr c48
                                                    have c48b1 : (((rd_T41 ((rd_T38 t179 x12_4).f1) x13_6).f0) != 2) = false := bne_eq_false_iff_eq.mpr c48
                                                    clear c48
                                                    (first | rw [c48b0] | (simp only [i64_w, i32_w]; rw [c48b0]) | skip)
                                                    by_cases c49 : ((rd_T41 ((rd_T38 t179 x12_4).f1) x13_6).f3) = x13_6
                                                    · rw [if_pos c49] at H
                                                      have c49b0 : (((rd_T41 ((rd_T38 t179 x12_4).f1) x13_6).f3) == x13_6) = true := beq_iff_eq.mpr c49
                                                      have c49b1 : (((rd_T41 ((rd_T38 t179 x12_4).f1) x13_6).f3) != x13_6) = false := bne_eq_false_iff_eq.mpr c49
                                                      clear c49
                                                      by_cases c50 : ((rd_T41 ((rd_T38 t179 x12_4).f1) x13_6).f4).toList = ([] : List UInt8)
                                                      · rw [if_pos c50] at H
                                                        have c50b0 : (((rd_T41 ((rd_T38 t179 x12_4).f1) x13_6).f4).toList == ([] : List UInt8)) = true := beq_iff_eq.mpr c50
                                                        have c50b1 : (((rd_T41 ((rd_T38 t179 x12_4).f1) x13_6).f4).toList != ([] : List UInt8)) = false := bne_eq_false_iff_eq.mpr c50
                                                        clear c50
                                                        by_cases c51 : ((rd_T41 ((rd_T38 t179 x12_4).f1) x13_6).f1).toList = ([] : List UInt8)
                                                        · rw [if_pos c51] at H
                                                          have c51b0 : (((rd_T41 ((rd_T38 t179 x12_4).f1) x13_6).f1).toList == ([] : List UInt8)) = true := beq_iff_eq.mpr c51
                                                          have c51b1 : (((rd_T41 ((rd_T38 t179 x12_4).f1) x13_6).f1).toList != ([] : List UInt8)) = false := bne_eq_false_iff_eq.mpr c51
                                                          clear c51
                                                          have H' := Aside0.mk H
                                                          clear H
                                                          have hcz52_0 : w46.cell? ⟨gb189, 0, none⟩ = some (.int .i64 0) := (blk_cell BK189.out 0).trans rfl
                                                          have hcz52_1 : w46.cell? ⟨gb189, 1, none⟩ = some (.string ⟨#[]⟩) := (blk_cell BK189.out 1).trans rfl
                                                          have hcz52_2 : w46.cell? ⟨gb189, 2, none⟩ = some (.slice none 0 0) := (blk_cell BK189.out 2).trans rfl
                                                          have hcz52_3 : w46.cell? ⟨gb189, 3, none⟩ = some (.int .i64 0) := (blk_cell BK189.out 3).trans rfl
                                                          have hcz52_4 : w46.cell? ⟨gb189, 4, none⟩ = some (.string ⟨#[]⟩) := (blk_cell BK189.out 4).trans rfl
                                                          have hfz52_0 := blk_frozen BK189.out 0
                                                          have hfz52_1 := blk_frozen BK189.out 1
                                                          have hfz52_2 := blk_frozen BK189.out 2
                                                          have hfz52_3 := blk_frozen BK189.out 3
                                                          have hfz52_4 := blk_frozen BK189.out 4
                                                          go_wp2
                                                          go_meet
                                                          case rel => exact ⟨_, (((((rd_T41 ((rd_T38 t179 x12_4).f1) x13_6).f2).length : Int) != 0)), (by first | rfl | (simp; done) | (simp [*]; done)), H', ⟨by have := HK1.out; have := HJ16.out; have := HJ25.out; have := HK4.out; have := HJ31.out; have := HK6.out; first | omega | exact Nat.le_refl _⟩, ⟨by (with_reducible repeat (first | apply Kd.R_alloc | apply Kd.R_drewN | apply Kd.R_drew)); exact Kd.R_mono (Kd.R_far (p := ⟨gb189, 4, none⟩) (Kd.R_far (p := ⟨gb189, 3, none⟩) (Kd.R_far (p := ⟨gb189, 2, none⟩) (Kd.R_far (p := ⟨gb189, 1, none⟩) (Kd.R_far (p := ⟨gb189, 0, none⟩) (Kd.R_mono HO_10.out (fun k_ hk => (⟨hk, hk.2⟩ : _ ∧ k_ ≠ gb189))) (fun _ hk => hk.2) (.int .i64 ((rd_T41 ((rd_T38 t179 x12_4).f1) x13_6).f0))) (fun _ hk => hk.2) (.string ((rd_T41 ((rd_T38 t179 x12_4).f1) x13_6).f1))) (fun _ hk => hk.2) (.slice A188_2 ((rd_T41 ((rd_T38 t179 x12_4).f1) x13_6).f2).length c188_2)) (fun _ hk => hk.2) (.int .i64 ((rd_T41 ((rd_T38 t179 x12_4).f1) x13_6).f3))) (fun _ hk => hk.2) (.string ((rd_T41 ((rd_T38 t179 x12_4).f1) x13_6).f4))) (fun _ hk => trivial)⟩, ⟨(Kd.R_reads' (by (with_reducible repeat (first | apply Kd.R_alloc | apply Kd.R_drewN | apply Kd.R_drew)); exact (Kd.R_mono (Kd.R_far (p := ⟨gb189, 4, none⟩) (Kd.R_far (p := ⟨gb189, 3, none⟩) (Kd.R_far (p := ⟨gb189, 2, none⟩) (Kd.R_far (p := ⟨gb189, 1, none⟩) (Kd.R_far (p := ⟨gb189, 0, none⟩) (Kd.R_mono HL187_1.out (fun k_ hk => (⟨hk, hk.2⟩ : _ ∧ k_ ≠ gb189))) (fun _ hk => hk.2) (.int .i64 ((rd_T41 ((rd_T38 t179 x12_4).f1) x13_6).f0))) (fun _ hk => hk.2) (.string ((rd_T41 ((rd_T38 t179 x12_4).f1) x13_6).f1))) (fun _ hk => hk.2) (.slice A188_2 ((rd_T41 ((rd_T38 t179 x12_4).f1) x13_6).f2).length c188_2)) (fun _ hk => hk.2) (.int .i64 ((rd_T41 ((rd_T38 t179 x12_4).f1) x13_6).f3))) (fun _ hk => hk.2) (.string ((rd_T41 ((rd_T38 t179 x12_4).f1) x13_6).f4))) (fun _ h_ => h_.1)))).2.2⟩, ⟨(Kd.R_reads' (by (with_reducible repeat (first | apply Kd.R_alloc | apply Kd.R_drewN | apply Kd.R_drew)); exact (Kd.R_mono (Kd.R_far (p := ⟨gb189, 4, none⟩) (Kd.R_far (p := ⟨gb189, 3, none⟩) (Kd.R_far (p := ⟨gb189, 2, none⟩) (Kd.R_far (p := ⟨gb189, 1, none⟩) (Kd.R_far (p := ⟨gb189, 0, none⟩) (Kd.R_types HL188_2.out BK189.out (by decide)) (fun _ hk => hk.2) (.int .i64 ((rd_T41 ((rd_T38 t179 x12_4).f1) x13_6).f0))) (fun _ hk => hk.2) (.string ((rd_T41 ((rd_T38 t179 x12_4).f1) x13_6).f1))) (fun _ hk => hk.2) (.slice A188_2 ((rd_T41 ((rd_T38 t179 x12_4).f1) x13_6).f2).length c188_2)) (fun _ hk => hk.2) (.int .i64 ((rd_T41 ((rd_T38 t179 x12_4).f1) x13_6).f3))) (fun _ hk => hk.2) (.string ((rd_T41 ((rd_T38 t179 x12_4).f1) x13_6).f4))) (fun _ h_ => h_.1)))).2.2⟩, ⟨by repeat (first | (with_reducible first | exact HB.out | apply below_alloc | apply pw_below_drewN | apply below_drew1 | refine below_set ?_ GE189.out) | exact HB.out)⟩⟩
                                                        · rw [if_neg c51] at H
                                                          have c51b0 : (((rd_T41 ((rd_T38 t179 x12_4).f1) x13_6).f1).toList == ([] : List UInt8)) = false := beq_eq_false_iff_ne.mpr c51
                                                          have c51b1 : (((rd_T41 ((rd_T38 t179 x12_4).f1) x13_6).f1).toList != ([] : List UInt8)) = true := bne_iff_ne.mpr c51
                                                          have H' := Aside0.mk H
                                                          clear H
                                                          have hcz53_0 : w46.cell? ⟨gb189, 0, none⟩ = some (.int .i64 0) := (blk_cell BK189.out 0).trans rfl
                                                          have hcz53_1 : w46.cell? ⟨gb189, 1, none⟩ = some (.string ⟨#[]⟩) := (blk_cell BK189.out 1).trans rfl
                                                          have hcz53_2 : w46.cell? ⟨gb189, 2, none⟩ = some (.slice none 0 0) := (blk_cell BK189.out 2).trans rfl
                                                          have hcz53_3 : w46.cell? ⟨gb189, 3, none⟩ = some (.int .i64 0) := (blk_cell BK189.out 3).trans rfl
                                                          have hcz53_4 : w46.cell? ⟨gb189, 4, none⟩ = some (.string ⟨#[]⟩) := (blk_cell BK189.out 4).trans rfl
                                                          have hfz53_0 := blk_frozen BK189.out 0
                                                          have hfz53_1 := blk_frozen BK189.out 1
                                                          have hfz53_2 := blk_frozen BK189.out 2
                                                          have hfz53_3 := blk_frozen BK189.out 3
                                                          have hfz53_4 := blk_frozen BK189.out 4
                                                          go_wp2
                                                          go_meet
                                                          case rel => exact ⟨_, (true), (by first | rfl | (simp; done) | (simp [*]; done)), H', ⟨by have := HK1.out; have := HJ16.out; have := HJ25.out; have := HK4.out; have := HJ31.out; have := HK6.out; first | omega | exact Nat.le_refl _⟩, ⟨by (with_reducible repeat (first | apply Kd.R_alloc | apply Kd.R_drewN | apply Kd.R_drew)); exact Kd.R_mono (Kd.R_far (p := ⟨gb189, 4, none⟩) (Kd.R_far (p := ⟨gb189, 3, none⟩) (Kd.R_far (p := ⟨gb189, 2, none⟩) (Kd.R_far (p := ⟨gb189, 1, none⟩) (Kd.R_far (p := ⟨gb189, 0, none⟩) (Kd.R_mono HO_10.out (fun k_ hk => (⟨hk, hk.2⟩ : _ ∧ k_ ≠ gb189))) (fun _ hk => hk.2) (.int .i64 ((rd_T41 ((rd_T38 t179 x12_4).f1) x13_6).f0))) (fun _ hk => hk.2) (.string ((rd_T41 ((rd_T38 t179 x12_4).f1) x13_6).f1))) (fun _ hk => hk.2) (.slice A188_2 ((rd_T41 ((rd_T38 t179 x12_4).f1) x13_6).f2).length c188_2)) (fun _ hk => hk.2) (.int .i64 ((rd_T41 ((rd_T38 t179 x12_4).f1) x13_6).f3))) (fun _ hk => hk.2) (.string ((rd_T41 ((rd_T38 t179 x12_4).f1) x13_6).f4))) (fun _ hk => trivial)⟩, ⟨(Kd.R_reads' (by (with_reducible repeat (first | apply Kd.R_alloc | apply Kd.R_drewN | apply Kd.R_drew)); exact (Kd.R_mono (Kd.R_far (p := ⟨gb189, 4, none⟩) (Kd.R_far (p := ⟨gb189, 3, none⟩) (Kd.R_far (p := ⟨gb189, 2, none⟩) (Kd.R_far (p := ⟨gb189, 1, none⟩) (Kd.R_far (p := ⟨gb189, 0, none⟩) (Kd.R_mono HL187_1.out (fun k_ hk => (⟨hk, hk.2⟩ : _ ∧ k_ ≠ gb189))) (fun _ hk => hk.2) (.int .i64 ((rd_T41 ((rd_T38 t179 x12_4).f1) x13_6).f0))) (fun _ hk => hk.2) (.string ((rd_T41 ((rd_T38 t179 x12_4).f1) x13_6).f1))) (fun _ hk => hk.2) (.slice A188_2 ((rd_T41 ((rd_T38 t179 x12_4).f1) x13_6).f2).length c188_2)) (fun _ hk => hk.2) (.int .i64 ((rd_T41 ((rd_T38 t179 x12_4).f1) x13_6).f3))) (fun _ hk => hk.2) (.string ((rd_T41 ((rd_T38 t179 x12_4).f1) x13_6).f4))) (fun _ h_ => h_.1)))).2.2⟩, ⟨(Kd.R_reads' (by (with_reducible repeat (first | apply Kd.R_alloc | apply Kd.R_drewN | apply Kd.R_drew)); exact (Kd.R_mono (Kd.R_far (p := ⟨gb189, 4, none⟩) (Kd.R_far (p := ⟨gb189, 3, none⟩) (Kd.R_far (p := ⟨gb189, 2, none⟩) (Kd.R_far (p := ⟨gb189, 1, none⟩) (Kd.R_far (p := ⟨gb189, 0, none⟩) (Kd.R_types HL188_2.out BK189.out (by decide)) (fun _ hk => hk.2) (.int .i64 ((rd_T41 ((rd_T38 t179 x12_4).f1) x13_6).f0))) (fun _ hk => hk.2) (.string ((rd_T41 ((rd_T38 t179 x12_4).f1) x13_6).f1))) (fun _ hk => hk.2) (.slice A188_2 ((rd_T41 ((rd_T38 t179 x12_4).f1) x13_6).f2).length c188_2)) (fun _ hk => hk.2) (.int .i64 ((rd_T41 ((rd_T38 t179 x12_4).f1) x13_6).f3))) (fun _ hk => hk.2) (.string ((rd_T41 ((rd_T38 t179 x12_4).f1) x13_6).f4))) (fun _ h_ => h_.1)))).2.2⟩, ⟨by repeat (first | (with_reducible first | exact HB.out | apply below_alloc | apply pw_below_drewN | apply below_drew1 | refine below_set ?_ GE189.out) | exact HB.out)⟩⟩
                                                      · rw [if_neg c50] at H
                                                        have c50b0 : (((rd_T41 ((rd_T38 t179 x12_4).f1) x13_6).f4).toList == ([] : List UInt8)) = false := beq_eq_false_iff_ne.mpr c50
                                                        have c50b1 : (((rd_T41 ((rd_T38 t179 x12_4).f1) x13_6).f4).toList != ([] : List UInt8)) = true := bne_iff_ne.mpr c50
                                                        have H' := Aside0.mk H
                                                        clear H
                                                        have hcz54_0 : w46.cell? ⟨gb189, 0, none⟩ = some (.int .i64 0) := (blk_cell BK189.out 0).trans rfl
                                                        have hcz54_1 : w46.cell? ⟨gb189, 1, none⟩ = some (.string ⟨#[]⟩) := (blk_cell BK189.out 1).trans rfl
                                                        have hcz54_2 : w46.cell? ⟨gb189, 2, none⟩ = some (.slice none 0 0) := (blk_cell BK189.out 2).trans rfl
                                                        have hcz54_3 : w46.cell? ⟨gb189, 3, none⟩ = some (.int .i64 0) := (blk_cell BK189.out 3).trans rfl
                                                        have hcz54_4 : w46.cell? ⟨gb189, 4, none⟩ = some (.string ⟨#[]⟩) := (blk_cell BK189.out 4).trans rfl
                                                        have hfz54_0 := blk_frozen BK189.out 0
                                                        have hfz54_1 := blk_frozen BK189.out 1
                                                        have hfz54_2 := blk_frozen BK189.out 2
                                                        have hfz54_3 := blk_frozen BK189.out 3
                                                        have hfz54_4 := blk_frozen BK189.out 4
                                                        go_wp2
                                                        go_meet
                                                        case rel => exact ⟨_, (true), (by first | rfl | (simp; done) | (simp [*]; done)), H', ⟨by have := HK1.out; have := HJ16.out; have := HJ25.out; have := HK4.out; have := HJ31.out; have := HK6.out; first | omega | exact Nat.le_refl _⟩, ⟨by (with_reducible repeat (first | apply Kd.R_alloc | apply Kd.R_drewN | apply Kd.R_drew)); exact Kd.R_mono (Kd.R_far (p := ⟨gb189, 4, none⟩) (Kd.R_far (p := ⟨gb189, 3, none⟩) (Kd.R_far (p := ⟨gb189, 2, none⟩) (Kd.R_far (p := ⟨gb189, 1, none⟩) (Kd.R_far (p := ⟨gb189, 0, none⟩) (Kd.R_mono HO_10.out (fun k_ hk => (⟨hk, hk.2⟩ : _ ∧ k_ ≠ gb189))) (fun _ hk => hk.2) (.int .i64 ((rd_T41 ((rd_T38 t179 x12_4).f1) x13_6).f0))) (fun _ hk => hk.2) (.string ((rd_T41 ((rd_T38 t179 x12_4).f1) x13_6).f1))) (fun _ hk => hk.2) (.slice A188_2 ((rd_T41 ((rd_T38 t179 x12_4).f1) x13_6).f2).length c188_2)) (fun _ hk => hk.2) (.int .i64 ((rd_T41 ((rd_T38 t179 x12_4).f1) x13_6).f3))) (fun _ hk => hk.2) (.string ((rd_T41 ((rd_T38 t179 x12_4).f1) x13_6).f4))) (fun _ hk => trivial)⟩, ⟨(Kd.R_reads' (by (with_reducible repeat (first | apply Kd.R_alloc | apply Kd.R_drewN | apply Kd.R_drew)); exact (Kd.R_mono (Kd.R_far (p := ⟨gb189, 4, none⟩) (Kd.R_far (p := ⟨gb189, 3, none⟩) (Kd.R_far (p := ⟨gb189, 2, none⟩) (Kd.R_far (p := ⟨gb189, 1, none⟩) (Kd.R_far (p := ⟨gb189, 0, none⟩) (Kd.R_mono HL187_1.out (fun k_ hk => (⟨hk, hk.2⟩ : _ ∧ k_ ≠ gb189))) (fun _ hk => hk.2) (.int .i64 ((rd_T41 ((rd_T38 t179 x12_4).f1) x13_6).f0))) (fun _ hk => hk.2) (.string ((rd_T41 ((rd_T38 t179 x12_4).f1) x13_6).f1))) (fun _ hk => hk.2) (.slice A188_2 ((rd_T41 ((rd_T38 t179 x12_4).f1) x13_6).f2).length c188_2)) (fun _ hk => hk.2) (.int .i64 ((rd_T41 ((rd_T38 t179 x12_4).f1) x13_6).f3))) (fun _ hk => hk.2) (.string ((rd_T41 ((rd_T38 t179 x12_4).f1) x13_6).f4))) (fun _ h_ => h_.1)))).2.2⟩, ⟨(Kd.R_reads' (by (with_reducible repeat (first | apply Kd.R_alloc | apply Kd.R_drewN | apply Kd.R_drew)); exact (Kd.R_mono (Kd.R_far (p := ⟨gb189, 4, none⟩) (Kd.R_far (p := ⟨gb189, 3, none⟩) (Kd.R_far (p := ⟨gb189, 2, none⟩) (Kd.R_far (p := ⟨gb189, 1, none⟩) (Kd.R_far (p := ⟨gb189, 0, none⟩) (Kd.R_types HL188_2.out BK189.out (by decide)) (fun _ hk => hk.2) (.int .i64 ((rd_T41 ((rd_T38 t179 x12_4).f1) x13_6).f0))) (fun _ hk => hk.2) (.string ((rd_T41 ((rd_T38 t179 x12_4).f1) x13_6).f1))) (fun _ hk => hk.2) (.slice A188_2 ((rd_T41 ((rd_T38 t179 x12_4).f1) x13_6).f2).length c188_2)) (fun _ hk => hk.2) (.int .i64 ((rd_T41 ((rd_T38 t179 x12_4).f1) x13_6).f3))) (fun _ hk => hk.2) (.string ((rd_T41 ((rd_T38 t179 x12_4).f1) x13_6).f4))) (fun _ h_ => h_.1)))).2.2⟩, ⟨by repeat (first | (with_reducible first | exact HB.out | apply below_alloc | apply pw_below_drewN | apply below_drew1 | refine below_set ?_ GE189.out) | exact HB.out)⟩⟩
                                                    · rw [if_neg c49] at H
                                                      have c49b0 : (((rd_T41 ((rd_T38 t179 x12_4).f1) x13_6).f3) == x13_6) = false := beq_eq_false_iff_ne.mpr c49
                                                      have c49b1 : (((rd_T41 ((rd_T38 t179 x12_4).f1) x13_6).f3) != x13_6) = true := bne_iff_ne.mpr c49
                                                      have H' := Aside0.mk H
                                                      clear H
                                                      have hcz55_0 : w46.cell? ⟨gb189, 0, none⟩ = some (.int .i64 0) := (blk_cell BK189.out 0).trans rfl
                                                      have hcz55_1 : w46.cell? ⟨gb189, 1, none⟩ = some (.string ⟨#[]⟩) := (blk_cell BK189.out 1).trans rfl
                                                      have hcz55_2 : w46.cell? ⟨gb189, 2, none⟩ = some (.slice none 0 0) := (blk_cell BK189.out 2).trans rfl
                                                      have hcz55_3 : w46.cell? ⟨gb189, 3, none⟩ = some (.int .i64 0) := (blk_cell BK189.out 3).trans rfl
                                                      have hcz55_4 : w46.cell? ⟨gb189, 4, none⟩ = some (.string ⟨#[]⟩) := (blk_cell BK189.out 4).trans rfl
                                                      have hfz55_0 := blk_frozen BK189.out 0
                                                      have hfz55_1 := blk_frozen BK189.out 1
                                                      have hfz55_2 := blk_frozen BK189.out 2
                                                      have hfz55_3 := blk_frozen BK189.out 3
                                                      have hfz55_4 := blk_frozen BK189.out 4
                                                      go_wp2
                                                      go_meet
                                                      case rel => exact ⟨_, (true), (by first | rfl | (simp; done) | (simp [*]; done)), H', ⟨by have := HK1.out; have := HJ16.out; have := HJ25.out; have := HK4.out; have := HJ31.out; have := HK6.out; first | omega | exact Nat.le_refl _⟩, ⟨by (with_reducible repeat (first | apply Kd.R_alloc | apply Kd.R_drewN | apply Kd.R_drew)); exact Kd.R_mono (Kd.R_far (p := ⟨gb189, 4, none⟩) (Kd.R_far (p := ⟨gb189, 3, none⟩) (Kd.R_far (p := ⟨gb189, 2, none⟩) (Kd.R_far (p := ⟨gb189, 1, none⟩) (Kd.R_far (p := ⟨gb189, 0, none⟩) (Kd.R_mono HO_10.out (fun k_ hk => (⟨hk, hk.2⟩ : _ ∧ k_ ≠ gb189))) (fun _ hk => hk.2) (.int .i64 ((rd_T41 ((rd_T38 t179 x12_4).f1) x13_6).f0))) (fun _ hk => hk.2) (.string ((rd_T41 ((rd_T38 t179 x12_4).f1) x13_6).f1))) (fun _ hk => hk.2) (.slice A188_2 ((rd_T41 ((rd_T38 t179 x12_4).f1) x13_6).f2).length c188_2)) (fun _ hk => hk.2) (.int .i64 ((rd_T41 ((rd_T38 t179 x12_4).f1) x13_6).f3))) (fun _ hk => hk.2) (.string ((rd_T41 ((rd_T38 t179 x12_4).f1) x13_6).f4))) (fun _ hk => trivial)⟩, ⟨(Kd.R_reads' (by (with_reducible repeat (first | apply Kd.R_alloc | apply Kd.R_drewN | apply Kd.R_drew)); exact (Kd.R_mono (Kd.R_far (p := ⟨gb189, 4, none⟩) (Kd.R_far (p := ⟨gb189, 3, none⟩) (Kd.R_far (p := ⟨gb189, 2, none⟩) (Kd.R_far (p := ⟨gb189, 1, none⟩) (Kd.R_far (p := ⟨gb189, 0, none⟩) (Kd.R_mono HL187_1.out (fun k_ hk => (⟨hk, hk.2⟩ : _ ∧ k_ ≠ gb189))) (fun _ hk => hk.2) (.int .i64 ((rd_T41 ((rd_T38 t179 x12_4).f1) x13_6).f0))) (fun _ hk => hk.2) (.string ((rd_T41 ((rd_T38 t179 x12_4).f1) x13_6).f1))) (fun _ hk => hk.2) (.slice A188_2 ((rd_T41 ((rd_T38 t179 x12_4).f1) x13_6).f2).length c188_2)) (fun _ hk => hk.2) (.int .i64 ((rd_T41 ((rd_T38 t179 x12_4).f1) x13_6).f3))) (fun _ hk => hk.2) (.string ((rd_T41 ((rd_T38 t179 x12_4).f1) x13_6).f4))) (fun _ h_ => h_.1)))).2.2⟩, ⟨(Kd.R_reads' (by (with_reducible repeat (first | apply Kd.R_alloc | apply Kd.R_drewN | apply Kd.R_drew)); exact (Kd.R_mono (Kd.R_far (p := ⟨gb189, 4, none⟩) (Kd.R_far (p := ⟨gb189, 3, none⟩) (Kd.R_far (p := ⟨gb189, 2, none⟩) (Kd.R_far (p := ⟨gb189, 1, none⟩) (Kd.R_far (p := ⟨gb189, 0, none⟩) (Kd.R_types HL188_2.out BK189.out (by decide)) (fun _ hk => hk.2) (.int .i64 ((rd_T41 ((rd_T38 t179 x12_4).f1) x13_6).f0))) (fun _ hk => hk.2) (.string ((rd_T41 ((rd_T38 t179 x12_4).f1) x13_6).f1))) (fun _ hk => hk.2) (.slice A188_2 ((rd_T41 ((rd_T38 t179 x12_4).f1) x13_6).f2).length c188_2)) (fun _ hk => hk.2) (.int .i64 ((rd_T41 ((rd_T38 t179 x12_4).f1) x13_6).f3))) (fun _ hk => hk.2) (.string ((rd_T41 ((rd_T38 t179 x12_4).f1) x13_6).f4))) (fun _ h_ => h_.1)))).2.2⟩, ⟨by repeat (first | (with_reducible first | exact HB.out | apply below_alloc | apply pw_below_drewN | apply below_drew1 | refine below_set ?_ GE189.out) | exact HB.out)⟩⟩
                                                  · rw [if_neg c48] at H
                                                    have c48b0 : (((rd_T41 ((rd_T38 t179 x12_4).f1) x13_6).f0) == 2) = false := beq_eq_false_iff_ne.mpr c48
                                                    have c48b1 : (((rd_T41 ((rd_T38 t179 x12_4).f1) x13_6).f0) != 2) = true := bne_iff_ne.mpr c48
                                                    (first | rw [c48b0] | (simp only [i64_w, i32_w]; rw [c48b0]) | skip)
                                                    have H' := Aside0.mk H
                                                    clear H
                                                    have hcz56_0 : w46.cell? ⟨gb189, 0, none⟩ = some (.int .i64 0) := (blk_cell BK189.out 0).trans rfl
                                                    have hcz56_1 : w46.cell? ⟨gb189, 1, none⟩ = some (.string ⟨#[]⟩) := (blk_cell BK189.out 1).trans rfl
                                                    have hcz56_2 : w46.cell? ⟨gb189, 2, none⟩ = some (.slice none 0 0) := (blk_cell BK189.out 2).trans rfl
                                                    have hcz56_3 : w46.cell? ⟨gb189, 3, none⟩ = some (.int .i64 0) := (blk_cell BK189.out 3).trans rfl
                                                    have hcz56_4 : w46.cell? ⟨gb189, 4, none⟩ = some (.string ⟨#[]⟩) := (blk_cell BK189.out 4).trans rfl
                                                    have hfz56_0 := blk_frozen BK189.out 0
                                                    have hfz56_1 := blk_frozen BK189.out 1
                                                    have hfz56_2 := blk_frozen BK189.out 2
                                                    have hfz56_3 := blk_frozen BK189.out 3
                                                    have hfz56_4 := blk_frozen BK189.out 4
                                                    go_wp2
                                                    go_meet
                                                    case rel => exact ⟨_, (true), (by first | rfl | (simp; done) | (simp [*]; done)), H', ⟨by have := HK1.out; have := HJ16.out; have := HJ25.out; have := HK4.out; have := HJ31.out; have := HK6.out; first | omega | exact Nat.le_refl _⟩, ⟨by (with_reducible repeat (first | apply Kd.R_alloc | apply Kd.R_drewN | apply Kd.R_drew)); exact Kd.R_mono (Kd.R_far (p := ⟨gb189, 4, none⟩) (Kd.R_far (p := ⟨gb189, 3, none⟩) (Kd.R_far (p := ⟨gb189, 2, none⟩) (Kd.R_far (p := ⟨gb189, 1, none⟩) (Kd.R_far (p := ⟨gb189, 0, none⟩) (Kd.R_mono HO_10.out (fun k_ hk => (⟨hk, hk.2⟩ : _ ∧ k_ ≠ gb189))) (fun _ hk => hk.2) (.int .i64 ((rd_T41 ((rd_T38 t179 x12_4).f1) x13_6).f0))) (fun _ hk => hk.2) (.string ((rd_T41 ((rd_T38 t179 x12_4).f1) x13_6).f1))) (fun _ hk => hk.2) (.slice A188_2 ((rd_T41 ((rd_T38 t179 x12_4).f1) x13_6).f2).length c188_2)) (fun _ hk => hk.2) (.int .i64 ((rd_T41 ((rd_T38 t179 x12_4).f1) x13_6).f3))) (fun _ hk => hk.2) (.string ((rd_T41 ((rd_T38 t179 x12_4).f1) x13_6).f4))) (fun _ hk => trivial)⟩, ⟨(Kd.R_reads' (by (with_reducible repeat (first | apply Kd.R_alloc | apply Kd.R_drewN | apply Kd.R_drew)); exact (Kd.R_mono (Kd.R_far (p := ⟨gb189, 4, none⟩) (Kd.R_far (p := ⟨gb189, 3, none⟩) (Kd.R_far (p := ⟨gb189, 2, none⟩) (Kd.R_far (p := ⟨gb189, 1, none⟩) (Kd.R_far (p := ⟨gb189, 0, none⟩) (Kd.R_mono HL187_1.out (fun k_ hk => (⟨hk, hk.2⟩ : _ ∧ k_ ≠ gb189))) (fun _ hk => hk.2) (.int .i64 ((rd_T41 ((rd_T38 t179 x12_4).f1) x13_6).f0))) (fun _ hk => hk.2) (.string ((rd_T41 ((rd_T38 t179 x12_4).f1) x13_6).f1))) (fun _ hk => hk.2) (.slice A188_2 ((rd_T41 ((rd_T38 t179 x12_4).f1) x13_6).f2).length c188_2)) (fun _ hk => hk.2) (.int .i64 ((rd_T41 ((rd_T38 t179 x12_4).f1) x13_6).f3))) (fun _ hk => hk.2) (.string ((rd_T41 ((rd_T38 t179 x12_4).f1) x13_6).f4))) (fun _ h_ => h_.1)))).2.2⟩, ⟨(Kd.R_reads' (by (with_reducible repeat (first | apply Kd.R_alloc | apply Kd.R_drewN | apply Kd.R_drew)); exact (Kd.R_mono (Kd.R_far (p := ⟨gb189, 4, none⟩) (Kd.R_far (p := ⟨gb189, 3, none⟩) (Kd.R_far (p := ⟨gb189, 2, none⟩) (Kd.R_far (p := ⟨gb189, 1, none⟩) (Kd.R_far (p := ⟨gb189, 0, none⟩) (Kd.R_types HL188_2.out BK189.out (by decide)) (fun _ hk => hk.2) (.int .i64 ((rd_T41 ((rd_T38 t179 x12_4).f1) x13_6).f0))) (fun _ hk => hk.2) (.string ((rd_T41 ((rd_T38 t179 x12_4).f1) x13_6).f1))) (fun _ hk => hk.2) (.slice A188_2 ((rd_T41 ((rd_T38 t179 x12_4).f1) x13_6).f2).length c188_2)) (fun _ hk => hk.2) (.int .i64 ((rd_T41 ((rd_T38 t179 x12_4).f1) x13_6).f3))) (fun _ hk => hk.2) (.string ((rd_T41 ((rd_T38 t179 x12_4).f1) x13_6).f4))) (fun _ h_ => h_.1)))).2.2⟩, ⟨by repeat (first | (with_reducible first | exact HB.out | apply below_alloc | apply pw_below_drewN | apply below_drew1 | refine below_set ?_ GE189.out) | exact HB.out)⟩⟩
                                                case rest =>
                                                  clear HC44
                                                  try clear c1
                                                  try clear p1
                                                  try clear q1
                                                  try clear hx1
                                                  try clear c2
                                                  try clear p2
                                                  try clear c3
                                                  try clear c4
                                                  try clear c5
                                                  try clear c6
                                                  try clear c6b0
                                                  try clear p6
                                                  try clear c7
                                                  try clear c8
                                                  try clear c8b0
                                                  try clear c9
                                                  try clear c10
                                                  try clear c11
                                                  try clear c13
                                                  try clear c13b0
                                                  try clear c14
                                                  try clear c15
                                                  try clear c18
                                                  try clear p18
                                                  try clear q18
                                                  try clear hx18
                                                  try clear c20
                                                  try clear c20b0
                                                  try clear c21
                                                  try clear c22
                                                  try clear c22b0
                                                  try clear c22b1
                                                  try clear c22b2
                                                  try clear c28
                                                  try clear c28b0
                                                  try clear c28b1
                                                  try clear c30
                                                  try clear c31
                                                  try clear c31b0
                                                  try clear c33
                                                  try clear c33b0
                                                  try clear c34
                                                  try clear c34b0
                                                  try clear c35
                                                  try clear c35b0
                                                  try clear c35b1
                                                  try clear c38
                                                  try clear c39
                                                  try clear c39b0
                                                  try clear c40
                                                  try clear c40b0
                                                  try clear c41
                                                  try clear c41b0
                                                  try clear c42
                                                  try clear c42b0
                                                  try clear c43
                                                  try clear c43b0
                                                  try clear c48
                                                  try clear c48b0
                                                  try clear c48b1
                                                  try clear c49
                                                  try clear c49b0
                                                  try clear c49b1
                                                  try clear c50
                                                  try clear c50b0
                                                  try clear c50b1
                                                  try clear c51
                                                  try clear c51b0
                                                  try clear c51b1
                                                  try clear hcz47_0
                                                  try clear hcz47_1
                                                  try clear hcz47_2
                                                  try clear hcz47_3
                                                  try clear hcz47_4
                                                  try clear hcz52_0
                                                  try clear hcz52_1
                                                  try clear hcz52_2
                                                  try clear hcz52_3
                                                  try clear hcz52_4
                                                  try clear hcz53_0
                                                  try clear hcz53_1
                                                  try clear hcz53_2
                                                  try clear hcz53_3
                                                  try clear hcz53_4
                                                  try clear hcz54_0
                                                  try clear hcz54_1
                                                  try clear hcz54_2
                                                  try clear hcz54_3
                                                  try clear hcz54_4
                                                  try clear hcz55_0
                                                  try clear hcz55_1
                                                  try clear hcz55_2
                                                  try clear hcz55_3
                                                  try clear hcz55_4
                                                  try clear hcz56_0
                                                  try clear hcz56_1
                                                  try clear hcz56_2
                                                  try clear hcz56_3
                                                  try clear hcz56_4
                                                  try clear hfz47_0
                                                  try clear hfz47_1
                                                  try clear hfz47_2
                                                  try clear hfz47_3
                                                  try clear hfz47_4
                                                  try clear hfz52_0
                                                  try clear hfz52_1
                                                  try clear hfz52_2
                                                  try clear hfz52_3
                                                  try clear hfz52_4
                                                  try clear hfz53_0
                                                  try clear hfz53_1
                                                  try clear hfz53_2
                                                  try clear hfz53_3
                                                  try clear hfz53_4
                                                  try clear hfz54_0
                                                  try clear hfz54_1
                                                  try clear hfz54_2
                                                  try clear hfz54_3
                                                  try clear hfz54_4
                                                  try clear hfz55_0
                                                  try clear hfz55_1
                                                  try clear hfz55_2
                                                  try clear hfz55_3
                                                  try clear hfz55_4
                                                  try clear hfz56_0
                                                  try clear hfz56_1
                                                  try clear hfz56_2
                                                  try clear hfz56_3
                                                  try clear hfz56_4
                                                  try clear hx185_0
                                                  try clear hx185_1
                                                  try clear hx186_0
                                                  try clear hx186_1
                                                  try clear hx187_0
                                                  try clear hx187_1
                                                  try clear hx188_0
                                                  try clear hx188_1
                                                  try clear hx188_2
                                                  try clear hx188_3
                                                  try clear hx188_4
                                                  try clear p1
                                                  try clear p18
                                                  try clear p185
                                                  try clear p186
                                                  try clear p187
                                                  try clear p188
                                                  try clear p2
                                                  try clear p6
                                                  try clear q1
                                                  try clear q18
                                                  try clear q185
                                                  try clear q186
                                                  try clear q187
                                                  try clear q188
                                                  obtain ⟨kq, x137_43, rfl, HA, HJ43, HO_10, HR187_1, HR188_2, HB⟩ := hcut
                                                  cases kq with
                                                  | zero => exact absurd HA.out (by simp [stolelaw15_PipeRows.j8])
                                                  | succ kj43 =>
                                                    have H := HA.out
                                                    clear HA
                                                    simp only [stolelaw15_PipeRows.j8] at H
                                                    by_cases c57 : x137_43 = true
                                                    · subst c57
                                                      have H1 : (some false) = some r := by rw [if_pos rfl] at H; exact H
                                                      clear H
                                                      have H := H1
                                                      clear H1
                                                      obtain rfl := Option.some.inj H
                                                      go_wp2
                                                      go_ret
                                                      exact ⟨by first | rfl | (simp [errW_none, errW_some] <;> rfl) | (simp [*, errW_none, errW_some] <;> rfl), by repeat (first | (with_reducible first | exact HB.out | apply below_alloc | apply pw_below_drewN | apply below_drew1) | exact HB.out)⟩
                                                    · replace c57 := Bool.eq_false_iff.mpr c57
                                                      subst c57
                                                      have H1 : (stolelaw15_PipeRows.l3 kj43 (wrap64 (1 + (wrap64 (Int.tmod (IntKind.u64.wrap (a0)) 12)))) (wrap64 (Int.tmod (IntKind.u64.wrap (a1)) 12)) t179 x12_4 (wrap64 (x13_6 + 1))) = some r := by rw [if_neg (show ¬ (false = true) by decide)] at H; exact H
                                                      clear H
                                                      have H := H1
                                                      clear H1
                                                      have H' := Aside0.mk H
                                                      clear H
                                                      go_wp2
                                                      go_roundg kj43
                                                      case measure => have := HK1.out; have := HJ16.out; have := HJ25.out; have := HK4.out; have := HJ31.out; have := HK6.out; have := HJ43.out; omega
                                                      case rel => exact ⟨(wrap64 (x13_6 + 1)), (by first | rfl | (simp; done) | (simp [*]; done)), H', ⟨by have := HK1.out; have := HJ16.out; have := HJ25.out; have := HK4.out; have := HJ31.out; have := HK6.out; have := HJ43.out; omega⟩, ⟨by (with_reducible repeat (first | apply Kd.R_alloc | apply Kd.R_drewN | apply Kd.R_drew)); exact HO_10.out⟩, ⟨by repeat (first | (with_reducible first | exact HB.out | apply below_alloc | apply pw_below_drewN | apply below_drew1) | exact HB.out)⟩⟩
                                              · rw [if_neg c43] at H
                                                exact absurd H (by simp)
                                            · rw [if_neg c42] at H
                                              exact absurd H (by simp)
                                          · rw [if_neg c41] at H
                                            exact absurd H (by simp)
                                        · rw [if_neg c40] at H
                                          exact absurd H (by simp)
                                      · rw [if_neg c39] at H
                                        have c39b0 : decide (x13_6 < (wrap64 (Int.tmod (IntKind.u64.wrap (a1)) 12))) = false := decide_eq_false c39
                                        clear c39
                                        have H' := Aside0.mk H
                                        clear H
                                        go_wp2
                                        go_roundg k6
                                        case measure => have := HK1.out; have := HJ16.out; have := HJ25.out; have := HK4.out; have := HJ31.out; have := HK6.out; omega
                                        case rel => exact ⟨(wrap64 (x12_4 + 1)), (by first | rfl | (simp; done) | (simp [*]; done)), H', ⟨by have := HK1.out; have := HJ16.out; have := HJ25.out; have := HK4.out; have := HJ31.out; have := HK6.out; omega⟩, ⟨by (with_reducible repeat (first | apply Kd.R_alloc | apply Kd.R_drewN | apply Kd.R_drew)); exact HO_10.out⟩, ⟨by repeat (first | (with_reducible first | exact HB.out | apply below_alloc | apply pw_below_drewN | apply below_drew1) | exact HB.out)⟩⟩
                          · rw [if_neg c31] at H
                            have c31b0 : decide (x12_4 < (wrap64 (1 + (wrap64 (Int.tmod (IntKind.u64.wrap (a0)) 12))))) = false := decide_eq_false c31
                            clear c31
                            obtain rfl := Option.some.inj H
                            go_wp2
                            go_ret
                            exact ⟨by first | rfl | (simp [errW_none, errW_some] <;> rfl) | (simp [*, errW_none, errW_some] <;> rfl), by repeat (first | (with_reducible first | exact HB.out | apply below_alloc | apply pw_below_drewN | apply below_drew1) | exact HB.out)⟩
  · replace c4 := Bool.eq_false_iff.mpr c4
    subst c4
    have H1 : (some false) = some r := by rw [if_neg (show ¬ (false = true) by decide)] at H; exact H
    clear H
    have H := H1
    clear H1
    obtain rfl := Option.some.inj H
    go_enter Try.func5, Try.ntmps5
    go_wp2_with (first | ((with_reducible refine gate_callee (f := 15) rfl ?_); refine goesL_ (some 15) rfl rfl Try.func15 (by kernel_rfl) rfl #[] rfl (by (try simp only [List.map_toArray, List.map_cons, List.map_nil]); first | done | rfl | (simp only [List.length_drop, List.length_take]; rfl)) ?_; (with_reducible refine (stolelaw15_awake.calls k  false _ A3.out).mono ?_); rintro e w58 ⟨rfl, hb⟩; refine ⟨_, rfl, ?_⟩; have n0_ := Aside0.mk (below_step (by repeat (first | (with_reducible first | exact HB.out | apply below_alloc | apply pw_below_drewN | apply below_drew1) | exact HB.out)) hb); clear HB; have HB := n0_; clear n0_; (try clear hb); (try clear hb2); (try clear hk); (try clear hi)))
    go_ret
    exact ⟨by first | rfl | (simp [errW_none, errW_some] <;> rfl) | (simp [*, errW_none, errW_some] <;> rfl), by repeat (first | (with_reducible first | exact HB.out | apply below_alloc | apply pw_below_drewN | apply below_drew1) | exact HB.out)⟩

/-- THE ONE PURE STATEMENT of stolelaw15_PipeRows: yours. -/
def stolelaw15_PipeRows.Pure : Prop := ∀ (a0 : Int) (a1 : Int), (Lit.int .i64 a0).wf = true → (Lit.int .i64 a1).wf = true → ∃ k, stolelaw15_PipeRows.f k a0 a1 = some true
theorem stolelaw15_PipeRows.walk (P : stolelaw15_PipeRows.Pure) (a0 : Int) (a1 : Int) (w : World) (w0 : (Lit.int .i64 a0).wf = true) (w1 : (Lit.int .i64 a1).wf = true) :
    Calls Try.prog 5 #[.int .i64 a0, .int .i64 a1] w fun e w' => e = .returned (.bool true) ∧ Below w.heap.size w w' := by
  obtain ⟨k, h⟩ := P a0 a1 w0 w1
  refine (stolelaw15_PipeRows.calls k a0 a1 true w h).mono ?_
  rintro e w' ⟨rfl, hd⟩
  exact ⟨rfl, hd⟩

end Go.Proofs.Ythaapadjlknieaa.Q
