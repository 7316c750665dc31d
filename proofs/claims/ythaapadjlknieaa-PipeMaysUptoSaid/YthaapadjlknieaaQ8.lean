-- By splice.py, a program of this session's, over the kit's print: a text of this seat's own.
import Derived.Test.YthaapadjlknieaaQ0
import Derived.Test.YthaapadjlknieaaQ2
import Derived.Test.YthaapadjlknieaaQ4
import Derived.Test.YthaapadjlknieaaQ7
import Derived.Test.YthaapadjlknieaaPipe
namespace Go.Proofs.Ythaapadjlknieaa.Q
open Go.Proofs.Ythaapadjlknieaa.Pipe
open Go.RowKit Go.Proofs.YthaapadjlknieaaW.PrintWords Go.Proofs.YthaapadjlknieaaW.PrintLast Go.Proofs.YthaapadjlknieaaW.PrintMore
attribute [local go_sem] max2_int min2_int max_two min_two max_three min_three max_four min_four   -- for this text's walks alone
set_option linter.unusedVariables false
set_option linter.unusedSimpArgs false

/-! ### stolelaw15_PipeMays: function 4 -/
mutual
def stolelaw15_PipeMays.j1 : Nat → Bool → Option (Bool)
  | 0, _ => none
  | k + 1, x4 => some x4
def stolelaw15_PipeMays.j0 : Nat → Bool → Option (Bool)
  | 0, _ => none
  | k + 1, x4 => some x4
end
def stolelaw15_PipeMays.f (k : Nat) (l0 : List (S45)) (a1 : Int) : Option (Bool) := (stolelaw15_awake.f k).bind fun t293 => (if t293 = true then ((pipe_Parse.f l0).bind fun bt294 => ((stolelaw0_Num.f bt294.2).bind fun t298 => (if t298 = 0 then (if 9 ≤ 3909374676536 then ((some (([(⟨(⟨#[]⟩ : ByteArray), ([] : List (S41))⟩ : S38), (⟨(⟨#[102, 111, 111]⟩ : ByteArray), ([] : List (S41))⟩ : S38), (⟨(⟨#[]⟩ : ByteArray), (([(⟨2, (⟨#[]⟩ : ByteArray), ([] : List ByteArray), 1, (⟨#[]⟩ : ByteArray)⟩ : S41)] : List (S41)))⟩ : S38), (⟨(⟨#[99, 97, 116]⟩ : ByteArray), (([(⟨99, (⟨#[]⟩ : ByteArray), ([] : List ByteArray), 0, (⟨#[]⟩ : ByteArray)⟩ : S41)] : List (S41)))⟩ : S38), (⟨(⟨#[99, 97, 116]⟩ : ByteArray), (([(⟨1, (⟨#[]⟩ : ByteArray), ([] : List ByteArray), 0, (⟨#[]⟩ : ByteArray)⟩ : S41)] : List (S41)))⟩ : S38), (⟨(⟨#[99, 97, 116]⟩ : ByteArray), (([(⟨4, (⟨#[]⟩ : ByteArray), ([] : List ByteArray), 2, (⟨#[]⟩ : ByteArray)⟩ : S41)] : List (S41)))⟩ : S38), (⟨(⟨#[99, 97, 116]⟩ : ByteArray), (([(⟨5, (⟨#[]⟩ : ByteArray), ([] : List ByteArray), 0, (⟨#[120]⟩ : ByteArray)⟩ : S41)] : List (S41)))⟩ : S38), (⟨(⟨#[99, 97, 116]⟩ : ByteArray), (List.replicate 9 z41)⟩ : S38)] : List (S38)) : List (S38))).bind fun y319 => ((stolelaw0_CopyPipe.f k bt294.1).bind fun t322 => (if 0 ≤ (wrap64 (Int.tmod (IntKind.u64.wrap (a1)) 8)) then (if (wrap64 (Int.tmod (IntKind.u64.wrap (a1)) 8)) < (y319.length : Int) then ((some (([(⟨(rd_T38 y319 (wrap64 (Int.tmod (IntKind.u64.wrap (a1)) 8))).f0, (rd_T38 y319 (wrap64 (Int.tmod (IntKind.u64.wrap (a1)) 8))).f1⟩ : S38)] : List (S38)) : List (S38))).bind fun y326 => (if t322.length + y326.length < 3518437208883 then ((pipe_May.f bt294.1).bind fun t332 => (if t332 = true then ((pipe_May.f (t322 ++ y326)).bind fun t333 => (if t333 = true then (stolelaw15_PipeMays.j1 k false) else (stolelaw15_PipeMays.j1 k (decide ((bt294.1.length : Int) ≤ 8))))) else (stolelaw15_PipeMays.j1 k false))) else (none))) else (none)) else (none)))) else (none)) else (if (bt294.1.length : Int) = 0 then ((stolelaw0_Num.f bt294.2).bind fun t299 => (if t299 = 1500 then (stolelaw15_PipeMays.j0 k true) else ((stolelaw0_Num.f bt294.2).bind fun t300 => (stolelaw15_PipeMays.j0 k (t300 == 1501))))) else (stolelaw15_PipeMays.j0 k false))))) else (some false))
theorem stolelaw15_PipeMays.mono_l : ∀ k, (∀ y0, LeO (stolelaw15_PipeMays.j1 k y0) (stolelaw15_PipeMays.j1 (k + 1) y0)) ∧ (∀ y0, LeO (stolelaw15_PipeMays.j0 k y0) (stolelaw15_PipeMays.j0 (k + 1) y0))
  | 0 => ⟨fun _ r h => by simp [stolelaw15_PipeMays.j1] at h, fun _ r h => by simp [stolelaw15_PipeMays.j0] at h⟩
  | k + 1 => by
    obtain ⟨ih0, ih1⟩ := stolelaw15_PipeMays.mono_l k
    refine ⟨?_, ?_⟩
    · intro y0
      unfold stolelaw15_PipeMays.j1
      repeat' first
      | (with_reducible exact ih0 _)
      | (with_reducible exact ih1 _)
      | (with_reducible exact stolelaw0_CopyPipe.mono _ _)
      | (with_reducible exact stolelaw15_awake.mono _)
      | (with_reducible exact LeO.refl _)
      | (with_reducible exact LeO.none _)
      | (with_reducible refine LeO.ite ?_ ?_)
      | (with_reducible refine LeO.bind ?_ (fun _ => ?_))
      | exact ih0 _
      | exact ih1 _
      | exact stolelaw0_CopyPipe.mono _ _
      | exact stolelaw15_awake.mono _
      | exact LeO.none _
      | refine LeO.ite ?_ ?_
      | refine LeO.bind ?_ (fun _ => ?_)
    · intro y0
      unfold stolelaw15_PipeMays.j0
      repeat' first
      | (with_reducible exact ih0 _)
      | (with_reducible exact ih1 _)
      | (with_reducible exact stolelaw0_CopyPipe.mono _ _)
      | (with_reducible exact stolelaw15_awake.mono _)
      | (with_reducible exact LeO.refl _)
      | (with_reducible exact LeO.none _)
      | (with_reducible refine LeO.ite ?_ ?_)
      | (with_reducible refine LeO.bind ?_ (fun _ => ?_))
      | exact ih0 _
      | exact ih1 _
      | exact stolelaw0_CopyPipe.mono _ _
      | exact stolelaw15_awake.mono _
      | exact LeO.none _
      | refine LeO.ite ?_ ?_
      | refine LeO.bind ?_ (fun _ => ?_)
theorem stolelaw15_PipeMays.mono : ∀ a0 a1 k, LeO (stolelaw15_PipeMays.f k a0 a1) (stolelaw15_PipeMays.f (k + 1) a0 a1) := by
  intro a0 a1 k
  obtain ⟨ih0, ih1⟩ := stolelaw15_PipeMays.mono_l k
  unfold stolelaw15_PipeMays.f
  repeat' first
      | (with_reducible exact ih0 _)
      | (with_reducible exact ih1 _)
      | (with_reducible exact stolelaw0_CopyPipe.mono _ _)
      | (with_reducible exact stolelaw15_awake.mono _)
      | (with_reducible exact LeO.refl _)
      | (with_reducible exact LeO.none _)
      | (with_reducible refine LeO.ite ?_ ?_)
      | (with_reducible refine LeO.bind ?_ (fun _ => ?_))
      | exact ih0 _
      | exact ih1 _
      | exact stolelaw0_CopyPipe.mono _ _
      | exact stolelaw15_awake.mono _
      | exact LeO.none _
      | refine LeO.ite ?_ ?_
      | refine LeO.bind ?_ (fun _ => ?_)
def stolelaw15_PipeMays.T7 : Bool × List (List Nat × List Nat) := (true, [([], []), ([0], [0]), ([], []), ([], []), ([3], [3]), ([4], [4]), ([5], [5]), ([2, 6], [2, 6]), ([7], [7]), ([8], [8]), ([1, 9, 1], [1, 9]), ([10, 10, 0, 1, 2, 3, 4, 5, 6, 7, 8, 9, 10], [10])])
def stolelaw15_PipeMays.B7 : List Nat := [0, 1, 0, 0, 8, 24, 56, 124, 252, 508, 1023, 2047]
theorem stolelaw15_PipeMays.tab7 : rtab .any (opsOf Try.f4 7) = stolelaw15_PipeMays.T7 := by kernel_rfl
theorem stolelaw15_PipeMays.bits7 : waitsOk stolelaw15_PipeMays.T7.2 stolelaw15_PipeMays.B7 = true := by kernel_rfl
set_option maxHeartbeats 8000000 in
set_option maxRecDepth 100000 in
theorem stolelaw15_PipeMays.calls (k : Nat) (A0 : Option Addr) (c0 : Nat) (l0 : List (S45)) (a1 : Int) (r : Bool) (w : World) (hr0 : Kd.C k45 w A0 l0.length l0) (hc0 : l0.length ≤ c0) (h : stolelaw15_PipeMays.f k l0 a1 = some r) :
    Calls Try.prog 4 #[.slice A0 l0.length c0, .int .i64 a1] w fun e w' => e = .returned (.bool r) ∧ Below w.heap.size w w' := by
  have hu38 := Try.underlying38
  have hu41 := Try.underlying41
  have HR0 := Aside0.mk hr0
  have HC0 := Aside0.mk hc0
  clear hr0 hc0
  have HB := Aside0.mk (Below.refl w.heap.size w)
  have H : ((stolelaw15_awake.f k).bind fun t293 => (if t293 = true then ((pipe_Parse.f l0).bind fun bt294 => ((stolelaw0_Num.f bt294.2).bind fun t298 => (if t298 = 0 then (if 9 ≤ 3909374676536 then ((some (([(⟨(⟨#[]⟩ : ByteArray), ([] : List (S41))⟩ : S38), (⟨(⟨#[102, 111, 111]⟩ : ByteArray), ([] : List (S41))⟩ : S38), (⟨(⟨#[]⟩ : ByteArray), (([(⟨2, (⟨#[]⟩ : ByteArray), ([] : List ByteArray), 1, (⟨#[]⟩ : ByteArray)⟩ : S41)] : List (S41)))⟩ : S38), (⟨(⟨#[99, 97, 116]⟩ : ByteArray), (([(⟨99, (⟨#[]⟩ : ByteArray), ([] : List ByteArray), 0, (⟨#[]⟩ : ByteArray)⟩ : S41)] : List (S41)))⟩ : S38), (⟨(⟨#[99, 97, 116]⟩ : ByteArray), (([(⟨1, (⟨#[]⟩ : ByteArray), ([] : List ByteArray), 0, (⟨#[]⟩ : ByteArray)⟩ : S41)] : List (S41)))⟩ : S38), (⟨(⟨#[99, 97, 116]⟩ : ByteArray), (([(⟨4, (⟨#[]⟩ : ByteArray), ([] : List ByteArray), 2, (⟨#[]⟩ : ByteArray)⟩ : S41)] : List (S41)))⟩ : S38), (⟨(⟨#[99, 97, 116]⟩ : ByteArray), (([(⟨5, (⟨#[]⟩ : ByteArray), ([] : List ByteArray), 0, (⟨#[120]⟩ : ByteArray)⟩ : S41)] : List (S41)))⟩ : S38), (⟨(⟨#[99, 97, 116]⟩ : ByteArray), (List.replicate 9 z41)⟩ : S38)] : List (S38)) : List (S38))).bind fun y319 => ((stolelaw0_CopyPipe.f k bt294.1).bind fun t322 => (if 0 ≤ (wrap64 (Int.tmod (IntKind.u64.wrap (a1)) 8)) then (if (wrap64 (Int.tmod (IntKind.u64.wrap (a1)) 8)) < (y319.length : Int) then ((some (([(⟨(rd_T38 y319 (wrap64 (Int.tmod (IntKind.u64.wrap (a1)) 8))).f0, (rd_T38 y319 (wrap64 (Int.tmod (IntKind.u64.wrap (a1)) 8))).f1⟩ : S38)] : List (S38)) : List (S38))).bind fun y326 => (if t322.length + y326.length < 3518437208883 then ((pipe_May.f bt294.1).bind fun t332 => (if t332 = true then ((pipe_May.f (t322 ++ y326)).bind fun t333 => (if t333 = true then (stolelaw15_PipeMays.j1 k false) else (stolelaw15_PipeMays.j1 k (decide ((bt294.1.length : Int) ≤ 8))))) else (stolelaw15_PipeMays.j1 k false))) else (none))) else (none)) else (none)))) else (none)) else (if (bt294.1.length : Int) = 0 then ((stolelaw0_Num.f bt294.2).bind fun t299 => (if t299 = 1500 then (stolelaw15_PipeMays.j0 k true) else ((stolelaw0_Num.f bt294.2).bind fun t300 => (stolelaw15_PipeMays.j0 k (t300 == 1501))))) else (stolelaw15_PipeMays.j0 k false))))) else (some false))) = some r := h
  clear h
  replace H := Option.bind_eq_some_iff.mp H
  obtain ⟨t293, A30, H⟩ := H
  replace H : (if t293 = true then ((pipe_Parse.f l0).bind fun bt294 => ((stolelaw0_Num.f bt294.2).bind fun t298 => (if t298 = 0 then (if 9 ≤ 3909374676536 then ((some (([(⟨(⟨#[]⟩ : ByteArray), ([] : List (S41))⟩ : S38), (⟨(⟨#[102, 111, 111]⟩ : ByteArray), ([] : List (S41))⟩ : S38), (⟨(⟨#[]⟩ : ByteArray), (([(⟨2, (⟨#[]⟩ : ByteArray), ([] : List ByteArray), 1, (⟨#[]⟩ : ByteArray)⟩ : S41)] : List (S41)))⟩ : S38), (⟨(⟨#[99, 97, 116]⟩ : ByteArray), (([(⟨99, (⟨#[]⟩ : ByteArray), ([] : List ByteArray), 0, (⟨#[]⟩ : ByteArray)⟩ : S41)] : List (S41)))⟩ : S38), (⟨(⟨#[99, 97, 116]⟩ : ByteArray), (([(⟨1, (⟨#[]⟩ : ByteArray), ([] : List ByteArray), 0, (⟨#[]⟩ : ByteArray)⟩ : S41)] : List (S41)))⟩ : S38), (⟨(⟨#[99, 97, 116]⟩ : ByteArray), (([(⟨4, (⟨#[]⟩ : ByteArray), ([] : List ByteArray), 2, (⟨#[]⟩ : ByteArray)⟩ : S41)] : List (S41)))⟩ : S38), (⟨(⟨#[99, 97, 116]⟩ : ByteArray), (([(⟨5, (⟨#[]⟩ : ByteArray), ([] : List ByteArray), 0, (⟨#[120]⟩ : ByteArray)⟩ : S41)] : List (S41)))⟩ : S38), (⟨(⟨#[99, 97, 116]⟩ : ByteArray), (List.replicate 9 z41)⟩ : S38)] : List (S38)) : List (S38))).bind fun y319 => ((stolelaw0_CopyPipe.f k bt294.1).bind fun t322 => (if 0 ≤ (wrap64 (Int.tmod (IntKind.u64.wrap (a1)) 8)) then (if (wrap64 (Int.tmod (IntKind.u64.wrap (a1)) 8)) < (y319.length : Int) then ((some (([(⟨(rd_T38 y319 (wrap64 (Int.tmod (IntKind.u64.wrap (a1)) 8))).f0, (rd_T38 y319 (wrap64 (Int.tmod (IntKind.u64.wrap (a1)) 8))).f1⟩ : S38)] : List (S38)) : List (S38))).bind fun y326 => (if t322.length + y326.length < 3518437208883 then ((pipe_May.f bt294.1).bind fun t332 => (if t332 = true then ((pipe_May.f (t322 ++ y326)).bind fun t333 => (if t333 = true then (stolelaw15_PipeMays.j1 k false) else (stolelaw15_PipeMays.j1 k (decide ((bt294.1.length : Int) ≤ 8))))) else (stolelaw15_PipeMays.j1 k false))) else (none))) else (none)) else (none)))) else (none)) else (if (bt294.1.length : Int) = 0 then ((stolelaw0_Num.f bt294.2).bind fun t299 => (if t299 = 1500 then (stolelaw15_PipeMays.j0 k true) else ((stolelaw0_Num.f bt294.2).bind fun t300 => (stolelaw15_PipeMays.j0 k (t300 == 1501))))) else (stolelaw15_PipeMays.j0 k false))))) else (some false)) = some r := H
  have A3 := Aside0.mk A30
  clear A30
  by_cases c4 : t293 = true
  · subst c4
    have H1 : ((pipe_Parse.f l0).bind fun bt294 => ((stolelaw0_Num.f bt294.2).bind fun t298 => (if t298 = 0 then (if 9 ≤ 3909374676536 then ((some (([(⟨(⟨#[]⟩ : ByteArray), ([] : List (S41))⟩ : S38), (⟨(⟨#[102, 111, 111]⟩ : ByteArray), ([] : List (S41))⟩ : S38), (⟨(⟨#[]⟩ : ByteArray), (([(⟨2, (⟨#[]⟩ : ByteArray), ([] : List ByteArray), 1, (⟨#[]⟩ : ByteArray)⟩ : S41)] : List (S41)))⟩ : S38), (⟨(⟨#[99, 97, 116]⟩ : ByteArray), (([(⟨99, (⟨#[]⟩ : ByteArray), ([] : List ByteArray), 0, (⟨#[]⟩ : ByteArray)⟩ : S41)] : List (S41)))⟩ : S38), (⟨(⟨#[99, 97, 116]⟩ : ByteArray), (([(⟨1, (⟨#[]⟩ : ByteArray), ([] : List ByteArray), 0, (⟨#[]⟩ : ByteArray)⟩ : S41)] : List (S41)))⟩ : S38), (⟨(⟨#[99, 97, 116]⟩ : ByteArray), (([(⟨4, (⟨#[]⟩ : ByteArray), ([] : List ByteArray), 2, (⟨#[]⟩ : ByteArray)⟩ : S41)] : List (S41)))⟩ : S38), (⟨(⟨#[99, 97, 116]⟩ : ByteArray), (([(⟨5, (⟨#[]⟩ : ByteArray), ([] : List ByteArray), 0, (⟨#[120]⟩ : ByteArray)⟩ : S41)] : List (S41)))⟩ : S38), (⟨(⟨#[99, 97, 116]⟩ : ByteArray), (List.replicate 9 z41)⟩ : S38)] : List (S38)) : List (S38))).bind fun y319 => ((stolelaw0_CopyPipe.f k bt294.1).bind fun t322 => (if 0 ≤ (wrap64 (Int.tmod (IntKind.u64.wrap (a1)) 8)) then (if (wrap64 (Int.tmod (IntKind.u64.wrap (a1)) 8)) < (y319.length : Int) then ((some (([(⟨(rd_T38 y319 (wrap64 (Int.tmod (IntKind.u64.wrap (a1)) 8))).f0, (rd_T38 y319 (wrap64 (Int.tmod (IntKind.u64.wrap (a1)) 8))).f1⟩ : S38)] : List (S38)) : List (S38))).bind fun y326 => (if t322.length + y326.length < 3518437208883 then ((pipe_May.f bt294.1).bind fun t332 => (if t332 = true then ((pipe_May.f (t322 ++ y326)).bind fun t333 => (if t333 = true then (stolelaw15_PipeMays.j1 k false) else (stolelaw15_PipeMays.j1 k (decide ((bt294.1.length : Int) ≤ 8))))) else (stolelaw15_PipeMays.j1 k false))) else (none))) else (none)) else (none)))) else (none)) else (if (bt294.1.length : Int) = 0 then ((stolelaw0_Num.f bt294.2).bind fun t299 => (if t299 = 1500 then (stolelaw15_PipeMays.j0 k true) else ((stolelaw0_Num.f bt294.2).bind fun t300 => (stolelaw15_PipeMays.j0 k (t300 == 1501))))) else (stolelaw15_PipeMays.j0 k false))))) = some r := by rw [if_pos rfl] at H; exact H
    clear H
    have H := H1
    clear H1
    replace H := Option.bind_eq_some_iff.mp H
    obtain ⟨⟨t294, t295⟩, A50, H⟩ := H
    replace H : ((stolelaw0_Num.f t295).bind fun t298 => (if t298 = 0 then (if 9 ≤ 3909374676536 then ((some (([(⟨(⟨#[]⟩ : ByteArray), ([] : List (S41))⟩ : S38), (⟨(⟨#[102, 111, 111]⟩ : ByteArray), ([] : List (S41))⟩ : S38), (⟨(⟨#[]⟩ : ByteArray), (([(⟨2, (⟨#[]⟩ : ByteArray), ([] : List ByteArray), 1, (⟨#[]⟩ : ByteArray)⟩ : S41)] : List (S41)))⟩ : S38), (⟨(⟨#[99, 97, 116]⟩ : ByteArray), (([(⟨99, (⟨#[]⟩ : ByteArray), ([] : List ByteArray), 0, (⟨#[]⟩ : ByteArray)⟩ : S41)] : List (S41)))⟩ : S38), (⟨(⟨#[99, 97, 116]⟩ : ByteArray), (([(⟨1, (⟨#[]⟩ : ByteArray), ([] : List ByteArray), 0, (⟨#[]⟩ : ByteArray)⟩ : S41)] : List (S41)))⟩ : S38), (⟨(⟨#[99, 97, 116]⟩ : ByteArray), (([(⟨4, (⟨#[]⟩ : ByteArray), ([] : List ByteArray), 2, (⟨#[]⟩ : ByteArray)⟩ : S41)] : List (S41)))⟩ : S38), (⟨(⟨#[99, 97, 116]⟩ : ByteArray), (([(⟨5, (⟨#[]⟩ : ByteArray), ([] : List ByteArray), 0, (⟨#[120]⟩ : ByteArray)⟩ : S41)] : List (S41)))⟩ : S38), (⟨(⟨#[99, 97, 116]⟩ : ByteArray), (List.replicate 9 z41)⟩ : S38)] : List (S38)) : List (S38))).bind fun y319 => ((stolelaw0_CopyPipe.f k t294).bind fun t322 => (if 0 ≤ (wrap64 (Int.tmod (IntKind.u64.wrap (a1)) 8)) then (if (wrap64 (Int.tmod (IntKind.u64.wrap (a1)) 8)) < (y319.length : Int) then ((some (([(⟨(rd_T38 y319 (wrap64 (Int.tmod (IntKind.u64.wrap (a1)) 8))).f0, (rd_T38 y319 (wrap64 (Int.tmod (IntKind.u64.wrap (a1)) 8))).f1⟩ : S38)] : List (S38)) : List (S38))).bind fun y326 => (if t322.length + y326.length < 3518437208883 then ((pipe_May.f t294).bind fun t332 => (if t332 = true then ((pipe_May.f (t322 ++ y326)).bind fun t333 => (if t333 = true then (stolelaw15_PipeMays.j1 k false) else (stolelaw15_PipeMays.j1 k (decide ((t294.length : Int) ≤ 8))))) else (stolelaw15_PipeMays.j1 k false))) else (none))) else (none)) else (none)))) else (none)) else (if (t294.length : Int) = 0 then ((stolelaw0_Num.f t295).bind fun t299 => (if t299 = 1500 then (stolelaw15_PipeMays.j0 k true) else ((stolelaw0_Num.f t295).bind fun t300 => (stolelaw15_PipeMays.j0 k (t300 == 1501))))) else (stolelaw15_PipeMays.j0 k false)))) = some r := H
    have A5 := Aside0.mk A50
    clear A50
    replace H := Option.bind_eq_some_iff.mp H
    obtain ⟨t298, A60, H⟩ := H
    replace H : (if t298 = 0 then (if 9 ≤ 3909374676536 then ((some (([(⟨(⟨#[]⟩ : ByteArray), ([] : List (S41))⟩ : S38), (⟨(⟨#[102, 111, 111]⟩ : ByteArray), ([] : List (S41))⟩ : S38), (⟨(⟨#[]⟩ : ByteArray), (([(⟨2, (⟨#[]⟩ : ByteArray), ([] : List ByteArray), 1, (⟨#[]⟩ : ByteArray)⟩ : S41)] : List (S41)))⟩ : S38), (⟨(⟨#[99, 97, 116]⟩ : ByteArray), (([(⟨99, (⟨#[]⟩ : ByteArray), ([] : List ByteArray), 0, (⟨#[]⟩ : ByteArray)⟩ : S41)] : List (S41)))⟩ : S38), (⟨(⟨#[99, 97, 116]⟩ : ByteArray), (([(⟨1, (⟨#[]⟩ : ByteArray), ([] : List ByteArray), 0, (⟨#[]⟩ : ByteArray)⟩ : S41)] : List (S41)))⟩ : S38), (⟨(⟨#[99, 97, 116]⟩ : ByteArray), (([(⟨4, (⟨#[]⟩ : ByteArray), ([] : List ByteArray), 2, (⟨#[]⟩ : ByteArray)⟩ : S41)] : List (S41)))⟩ : S38), (⟨(⟨#[99, 97, 116]⟩ : ByteArray), (([(⟨5, (⟨#[]⟩ : ByteArray), ([] : List ByteArray), 0, (⟨#[120]⟩ : ByteArray)⟩ : S41)] : List (S41)))⟩ : S38), (⟨(⟨#[99, 97, 116]⟩ : ByteArray), (List.replicate 9 z41)⟩ : S38)] : List (S38)) : List (S38))).bind fun y319 => ((stolelaw0_CopyPipe.f k t294).bind fun t322 => (if 0 ≤ (wrap64 (Int.tmod (IntKind.u64.wrap (a1)) 8)) then (if (wrap64 (Int.tmod (IntKind.u64.wrap (a1)) 8)) < (y319.length : Int) then ((some (([(⟨(rd_T38 y319 (wrap64 (Int.tmod (IntKind.u64.wrap (a1)) 8))).f0, (rd_T38 y319 (wrap64 (Int.tmod (IntKind.u64.wrap (a1)) 8))).f1⟩ : S38)] : List (S38)) : List (S38))).bind fun y326 => (if t322.length + y326.length < 3518437208883 then ((pipe_May.f t294).bind fun t332 => (if t332 = true then ((pipe_May.f (t322 ++ y326)).bind fun t333 => (if t333 = true then (stolelaw15_PipeMays.j1 k false) else (stolelaw15_PipeMays.j1 k (decide ((t294.length : Int) ≤ 8))))) else (stolelaw15_PipeMays.j1 k false))) else (none))) else (none)) else (none)))) else (none)) else (if (t294.length : Int) = 0 then ((stolelaw0_Num.f t295).bind fun t299 => (if t299 = 1500 then (stolelaw15_PipeMays.j0 k true) else ((stolelaw0_Num.f t295).bind fun t300 => (stolelaw15_PipeMays.j0 k (t300 == 1501))))) else (stolelaw15_PipeMays.j0 k false))) = some r := H
    have A6 := Aside0.mk A60
    clear A60
    by_cases c7 : t298 = 0
    · rw [if_pos c7] at H
      have c7b0 : (t298 == 0) = true := beq_iff_eq.mpr c7
      have c7b1 : (t298 != 0) = false := bne_eq_false_iff_eq.mpr c7
      clear c7
      obtain ⟨y301, hy301⟩ : ∃ y_ : List (S41), y_ = (([(⟨2, (⟨#[]⟩ : ByteArray), ([] : List ByteArray), 1, (⟨#[]⟩ : ByteArray)⟩ : S41)] : List (S41))) := ⟨_, rfl⟩
      replace H : (if 9 ≤ 3909374676536 then ((some (([(⟨(⟨#[]⟩ : ByteArray), ([] : List (S41))⟩ : S38), (⟨(⟨#[102, 111, 111]⟩ : ByteArray), ([] : List (S41))⟩ : S38), (⟨(⟨#[]⟩ : ByteArray), y301⟩ : S38), (⟨(⟨#[99, 97, 116]⟩ : ByteArray), (([(⟨99, (⟨#[]⟩ : ByteArray), ([] : List ByteArray), 0, (⟨#[]⟩ : ByteArray)⟩ : S41)] : List (S41)))⟩ : S38), (⟨(⟨#[99, 97, 116]⟩ : ByteArray), (([(⟨1, (⟨#[]⟩ : ByteArray), ([] : List ByteArray), 0, (⟨#[]⟩ : ByteArray)⟩ : S41)] : List (S41)))⟩ : S38), (⟨(⟨#[99, 97, 116]⟩ : ByteArray), (([(⟨4, (⟨#[]⟩ : ByteArray), ([] : List ByteArray), 2, (⟨#[]⟩ : ByteArray)⟩ : S41)] : List (S41)))⟩ : S38), (⟨(⟨#[99, 97, 116]⟩ : ByteArray), (([(⟨5, (⟨#[]⟩ : ByteArray), ([] : List ByteArray), 0, (⟨#[120]⟩ : ByteArray)⟩ : S41)] : List (S41)))⟩ : S38), (⟨(⟨#[99, 97, 116]⟩ : ByteArray), (List.replicate 9 z41)⟩ : S38)] : List (S38)) : List (S38))).bind fun y319 => ((stolelaw0_CopyPipe.f k t294).bind fun t322 => (if 0 ≤ (wrap64 (Int.tmod (IntKind.u64.wrap (a1)) 8)) then (if (wrap64 (Int.tmod (IntKind.u64.wrap (a1)) 8)) < (y319.length : Int) then ((some (([(⟨(rd_T38 y319 (wrap64 (Int.tmod (IntKind.u64.wrap (a1)) 8))).f0, (rd_T38 y319 (wrap64 (Int.tmod (IntKind.u64.wrap (a1)) 8))).f1⟩ : S38)] : List (S38)) : List (S38))).bind fun y326 => (if t322.length + y326.length < 3518437208883 then ((pipe_May.f t294).bind fun t332 => (if t332 = true then ((pipe_May.f (t322 ++ y326)).bind fun t333 => (if t333 = true then (stolelaw15_PipeMays.j1 k false) else (stolelaw15_PipeMays.j1 k (decide ((t294.length : Int) ≤ 8))))) else (stolelaw15_PipeMays.j1 k false))) else (none))) else (none)) else (none)))) else (none)) = some r := by first | (rw [hy301]; with_reducible exact H) | (have H2_ := (Option.bind_some _ _).symm.trans H; rw [hy301]; with_reducible exact H2_) | (have H2_ := (Option.bind_some _ _).symm.trans H; with_reducible exact H2_) | with_reducible exact H | (rw [hy301]; exact H) | exact H
      have Ny301 := Aside0.mk hy301
      clear hy301
      obtain ⟨y304, hy304⟩ : ∃ y_ : List (S41), y_ = (([(⟨99, (⟨#[]⟩ : ByteArray), ([] : List ByteArray), 0, (⟨#[]⟩ : ByteArray)⟩ : S41)] : List (S41))) := ⟨_, rfl⟩
      replace H : (if 9 ≤ 3909374676536 then ((some (([(⟨(⟨#[]⟩ : ByteArray), ([] : List (S41))⟩ : S38), (⟨(⟨#[102, 111, 111]⟩ : ByteArray), ([] : List (S41))⟩ : S38), (⟨(⟨#[]⟩ : ByteArray), y301⟩ : S38), (⟨(⟨#[99, 97, 116]⟩ : ByteArray), y304⟩ : S38), (⟨(⟨#[99, 97, 116]⟩ : ByteArray), (([(⟨1, (⟨#[]⟩ : ByteArray), ([] : List ByteArray), 0, (⟨#[]⟩ : ByteArray)⟩ : S41)] : List (S41)))⟩ : S38), (⟨(⟨#[99, 97, 116]⟩ : ByteArray), (([(⟨4, (⟨#[]⟩ : ByteArray), ([] : List ByteArray), 2, (⟨#[]⟩ : ByteArray)⟩ : S41)] : List (S41)))⟩ : S38), (⟨(⟨#[99, 97, 116]⟩ : ByteArray), (([(⟨5, (⟨#[]⟩ : ByteArray), ([] : List ByteArray), 0, (⟨#[120]⟩ : ByteArray)⟩ : S41)] : List (S41)))⟩ : S38), (⟨(⟨#[99, 97, 116]⟩ : ByteArray), (List.replicate 9 z41)⟩ : S38)] : List (S38)) : List (S38))).bind fun y319 => ((stolelaw0_CopyPipe.f k t294).bind fun t322 => (if 0 ≤ (wrap64 (Int.tmod (IntKind.u64.wrap (a1)) 8)) then (if (wrap64 (Int.tmod (IntKind.u64.wrap (a1)) 8)) < (y319.length : Int) then ((some (([(⟨(rd_T38 y319 (wrap64 (Int.tmod (IntKind.u64.wrap (a1)) 8))).f0, (rd_T38 y319 (wrap64 (Int.tmod (IntKind.u64.wrap (a1)) 8))).f1⟩ : S38)] : List (S38)) : List (S38))).bind fun y326 => (if t322.length + y326.length < 3518437208883 then ((pipe_May.f t294).bind fun t332 => (if t332 = true then ((pipe_May.f (t322 ++ y326)).bind fun t333 => (if t333 = true then (stolelaw15_PipeMays.j1 k false) else (stolelaw15_PipeMays.j1 k (decide ((t294.length : Int) ≤ 8))))) else (stolelaw15_PipeMays.j1 k false))) else (none))) else (none)) else (none)))) else (none)) = some r := by first | (rw [hy304]; with_reducible exact H) | (have H2_ := (Option.bind_some _ _).symm.trans H; rw [hy304]; with_reducible exact H2_) | (have H2_ := (Option.bind_some _ _).symm.trans H; with_reducible exact H2_) | with_reducible exact H | (rw [hy304]; exact H) | exact H
      have Ny304 := Aside0.mk hy304
      clear hy304
      obtain ⟨y307, hy307⟩ : ∃ y_ : List (S41), y_ = (([(⟨1, (⟨#[]⟩ : ByteArray), ([] : List ByteArray), 0, (⟨#[]⟩ : ByteArray)⟩ : S41)] : List (S41))) := ⟨_, rfl⟩
      replace H : (if 9 ≤ 3909374676536 then ((some (([(⟨(⟨#[]⟩ : ByteArray), ([] : List (S41))⟩ : S38), (⟨(⟨#[102, 111, 111]⟩ : ByteArray), ([] : List (S41))⟩ : S38), (⟨(⟨#[]⟩ : ByteArray), y301⟩ : S38), (⟨(⟨#[99, 97, 116]⟩ : ByteArray), y304⟩ : S38), (⟨(⟨#[99, 97, 116]⟩ : ByteArray), y307⟩ : S38), (⟨(⟨#[99, 97, 116]⟩ : ByteArray), (([(⟨4, (⟨#[]⟩ : ByteArray), ([] : List ByteArray), 2, (⟨#[]⟩ : ByteArray)⟩ : S41)] : List (S41)))⟩ : S38), (⟨(⟨#[99, 97, 116]⟩ : ByteArray), (([(⟨5, (⟨#[]⟩ : ByteArray), ([] : List ByteArray), 0, (⟨#[120]⟩ : ByteArray)⟩ : S41)] : List (S41)))⟩ : S38), (⟨(⟨#[99, 97, 116]⟩ : ByteArray), (List.replicate 9 z41)⟩ : S38)] : List (S38)) : List (S38))).bind fun y319 => ((stolelaw0_CopyPipe.f k t294).bind fun t322 => (if 0 ≤ (wrap64 (Int.tmod (IntKind.u64.wrap (a1)) 8)) then (if (wrap64 (Int.tmod (IntKind.u64.wrap (a1)) 8)) < (y319.length : Int) then ((some (([(⟨(rd_T38 y319 (wrap64 (Int.tmod (IntKind.u64.wrap (a1)) 8))).f0, (rd_T38 y319 (wrap64 (Int.tmod (IntKind.u64.wrap (a1)) 8))).f1⟩ : S38)] : List (S38)) : List (S38))).bind fun y326 => (if t322.length + y326.length < 3518437208883 then ((pipe_May.f t294).bind fun t332 => (if t332 = true then ((pipe_May.f (t322 ++ y326)).bind fun t333 => (if t333 = true then (stolelaw15_PipeMays.j1 k false) else (stolelaw15_PipeMays.j1 k (decide ((t294.length : Int) ≤ 8))))) else (stolelaw15_PipeMays.j1 k false))) else (none))) else (none)) else (none)))) else (none)) = some r := by first | (rw [hy307]; with_reducible exact H) | (have H2_ := (Option.bind_some _ _).symm.trans H; rw [hy307]; with_reducible exact H2_) | (have H2_ := (Option.bind_some _ _).symm.trans H; with_reducible exact H2_) | with_reducible exact H | (rw [hy307]; exact H) | exact H
      have Ny307 := Aside0.mk hy307
      clear hy307
      obtain ⟨y310, hy310⟩ : ∃ y_ : List (S41), y_ = (([(⟨4, (⟨#[]⟩ : ByteArray), ([] : List ByteArray), 2, (⟨#[]⟩ : ByteArray)⟩ : S41)] : List (S41))) := ⟨_, rfl⟩
      replace H : (if 9 ≤ 3909374676536 then ((some (([(⟨(⟨#[]⟩ : ByteArray), ([] : List (S41))⟩ : S38), (⟨(⟨#[102, 111, 111]⟩ : ByteArray), ([] : List (S41))⟩ : S38), (⟨(⟨#[]⟩ : ByteArray), y301⟩ : S38), (⟨(⟨#[99, 97, 116]⟩ : ByteArray), y304⟩ : S38), (⟨(⟨#[99, 97, 116]⟩ : ByteArray), y307⟩ : S38), (⟨(⟨#[99, 97, 116]⟩ : ByteArray), y310⟩ : S38), (⟨(⟨#[99, 97, 116]⟩ : ByteArray), (([(⟨5, (⟨#[]⟩ : ByteArray), ([] : List ByteArray), 0, (⟨#[120]⟩ : ByteArray)⟩ : S41)] : List (S41)))⟩ : S38), (⟨(⟨#[99, 97, 116]⟩ : ByteArray), (List.replicate 9 z41)⟩ : S38)] : List (S38)) : List (S38))).bind fun y319 => ((stolelaw0_CopyPipe.f k t294).bind fun t322 => (if 0 ≤ (wrap64 (Int.tmod (IntKind.u64.wrap (a1)) 8)) then (if (wrap64 (Int.tmod (IntKind.u64.wrap (a1)) 8)) < (y319.length : Int) then ((some (([(⟨(rd_T38 y319 (wrap64 (Int.tmod (IntKind.u64.wrap (a1)) 8))).f0, (rd_T38 y319 (wrap64 (Int.tmod (IntKind.u64.wrap (a1)) 8))).f1⟩ : S38)] : List (S38)) : List (S38))).bind fun y326 => (if t322.length + y326.length < 3518437208883 then ((pipe_May.f t294).bind fun t332 => (if t332 = true then ((pipe_May.f (t322 ++ y326)).bind fun t333 => (if t333 = true then (stolelaw15_PipeMays.j1 k false) else (stolelaw15_PipeMays.j1 k (decide ((t294.length : Int) ≤ 8))))) else (stolelaw15_PipeMays.j1 k false))) else (none))) else (none)) else (none)))) else (none)) = some r := by first | (rw [hy310]; with_reducible exact H) | (have H2_ := (Option.bind_some _ _).symm.trans H; rw [hy310]; with_reducible exact H2_) | (have H2_ := (Option.bind_some _ _).symm.trans H; with_reducible exact H2_) | with_reducible exact H | (rw [hy310]; exact H) | exact H
      have Ny310 := Aside0.mk hy310
      clear hy310
      obtain ⟨y313, hy313⟩ : ∃ y_ : List (S41), y_ = (([(⟨5, (⟨#[]⟩ : ByteArray), ([] : List ByteArray), 0, (⟨#[120]⟩ : ByteArray)⟩ : S41)] : List (S41))) := ⟨_, rfl⟩
      replace H : (if 9 ≤ 3909374676536 then ((some (([(⟨(⟨#[]⟩ : ByteArray), ([] : List (S41))⟩ : S38), (⟨(⟨#[102, 111, 111]⟩ : ByteArray), ([] : List (S41))⟩ : S38), (⟨(⟨#[]⟩ : ByteArray), y301⟩ : S38), (⟨(⟨#[99, 97, 116]⟩ : ByteArray), y304⟩ : S38), (⟨(⟨#[99, 97, 116]⟩ : ByteArray), y307⟩ : S38), (⟨(⟨#[99, 97, 116]⟩ : ByteArray), y310⟩ : S38), (⟨(⟨#[99, 97, 116]⟩ : ByteArray), y313⟩ : S38), (⟨(⟨#[99, 97, 116]⟩ : ByteArray), (List.replicate 9 z41)⟩ : S38)] : List (S38)) : List (S38))).bind fun y319 => ((stolelaw0_CopyPipe.f k t294).bind fun t322 => (if 0 ≤ (wrap64 (Int.tmod (IntKind.u64.wrap (a1)) 8)) then (if (wrap64 (Int.tmod (IntKind.u64.wrap (a1)) 8)) < (y319.length : Int) then ((some (([(⟨(rd_T38 y319 (wrap64 (Int.tmod (IntKind.u64.wrap (a1)) 8))).f0, (rd_T38 y319 (wrap64 (Int.tmod (IntKind.u64.wrap (a1)) 8))).f1⟩ : S38)] : List (S38)) : List (S38))).bind fun y326 => (if t322.length + y326.length < 3518437208883 then ((pipe_May.f t294).bind fun t332 => (if t332 = true then ((pipe_May.f (t322 ++ y326)).bind fun t333 => (if t333 = true then (stolelaw15_PipeMays.j1 k false) else (stolelaw15_PipeMays.j1 k (decide ((t294.length : Int) ≤ 8))))) else (stolelaw15_PipeMays.j1 k false))) else (none))) else (none)) else (none)))) else (none)) = some r := by first | (rw [hy313]; with_reducible exact H) | (have H2_ := (Option.bind_some _ _).symm.trans H; rw [hy313]; with_reducible exact H2_) | (have H2_ := (Option.bind_some _ _).symm.trans H; with_reducible exact H2_) | with_reducible exact H | (rw [hy313]; exact H) | exact H
      have Ny313 := Aside0.mk hy313
      clear hy313
      by_cases c8 : 9 ≤ 3909374676536
      · rw [if_pos c8] at H
        have c8b0 := eq_true c8
        have c8b1 : decide (9 ≤ 3909374676536) = true := decide_eq_true c8
        clear c8
        obtain ⟨y316, hy316⟩ : ∃ y_ : List (S41), y_ = (List.replicate 9 z41) := ⟨_, rfl⟩
        replace H : ((some (([(⟨(⟨#[]⟩ : ByteArray), ([] : List (S41))⟩ : S38), (⟨(⟨#[102, 111, 111]⟩ : ByteArray), ([] : List (S41))⟩ : S38), (⟨(⟨#[]⟩ : ByteArray), y301⟩ : S38), (⟨(⟨#[99, 97, 116]⟩ : ByteArray), y304⟩ : S38), (⟨(⟨#[99, 97, 116]⟩ : ByteArray), y307⟩ : S38), (⟨(⟨#[99, 97, 116]⟩ : ByteArray), y310⟩ : S38), (⟨(⟨#[99, 97, 116]⟩ : ByteArray), y313⟩ : S38), (⟨(⟨#[99, 97, 116]⟩ : ByteArray), y316⟩ : S38)] : List (S38)) : List (S38))).bind fun y319 => ((stolelaw0_CopyPipe.f k t294).bind fun t322 => (if 0 ≤ (wrap64 (Int.tmod (IntKind.u64.wrap (a1)) 8)) then (if (wrap64 (Int.tmod (IntKind.u64.wrap (a1)) 8)) < (y319.length : Int) then ((some (([(⟨(rd_T38 y319 (wrap64 (Int.tmod (IntKind.u64.wrap (a1)) 8))).f0, (rd_T38 y319 (wrap64 (Int.tmod (IntKind.u64.wrap (a1)) 8))).f1⟩ : S38)] : List (S38)) : List (S38))).bind fun y326 => (if t322.length + y326.length < 3518437208883 then ((pipe_May.f t294).bind fun t332 => (if t332 = true then ((pipe_May.f (t322 ++ y326)).bind fun t333 => (if t333 = true then (stolelaw15_PipeMays.j1 k false) else (stolelaw15_PipeMays.j1 k (decide ((t294.length : Int) ≤ 8))))) else (stolelaw15_PipeMays.j1 k false))) else (none))) else (none)) else (none)))) = some r := by first | (rw [hy316]; with_reducible exact H) | (have H2_ := (Option.bind_some _ _).symm.trans H; rw [hy316]; with_reducible exact H2_) | (have H2_ := (Option.bind_some _ _).symm.trans H; with_reducible exact H2_) | with_reducible exact H | (rw [hy316]; exact H) | exact H
        have Ny316 := Aside0.mk hy316
        clear hy316
        obtain ⟨y319, hy319⟩ : ∃ y_ : List (S38), y_ = (([(⟨(⟨#[]⟩ : ByteArray), ([] : List (S41))⟩ : S38), (⟨(⟨#[102, 111, 111]⟩ : ByteArray), ([] : List (S41))⟩ : S38), (⟨(⟨#[]⟩ : ByteArray), y301⟩ : S38), (⟨(⟨#[99, 97, 116]⟩ : ByteArray), y304⟩ : S38), (⟨(⟨#[99, 97, 116]⟩ : ByteArray), y307⟩ : S38), (⟨(⟨#[99, 97, 116]⟩ : ByteArray), y310⟩ : S38), (⟨(⟨#[99, 97, 116]⟩ : ByteArray), y313⟩ : S38), (⟨(⟨#[99, 97, 116]⟩ : ByteArray), y316⟩ : S38)] : List (S38))) := ⟨_, rfl⟩
        replace H : ((stolelaw0_CopyPipe.f k t294).bind fun t322 => (if 0 ≤ (wrap64 (Int.tmod (IntKind.u64.wrap (a1)) 8)) then (if (wrap64 (Int.tmod (IntKind.u64.wrap (a1)) 8)) < (y319.length : Int) then ((some (([(⟨(rd_T38 y319 (wrap64 (Int.tmod (IntKind.u64.wrap (a1)) 8))).f0, (rd_T38 y319 (wrap64 (Int.tmod (IntKind.u64.wrap (a1)) 8))).f1⟩ : S38)] : List (S38)) : List (S38))).bind fun y326 => (if t322.length + y326.length < 3518437208883 then ((pipe_May.f t294).bind fun t332 => (if t332 = true then ((pipe_May.f (t322 ++ y326)).bind fun t333 => (if t333 = true then (stolelaw15_PipeMays.j1 k false) else (stolelaw15_PipeMays.j1 k (decide ((t294.length : Int) ≤ 8))))) else (stolelaw15_PipeMays.j1 k false))) else (none))) else (none)) else (none))) = some r := by first | (rw [hy319]; with_reducible exact H) | (have H2_ := (Option.bind_some _ _).symm.trans H; rw [hy319]; with_reducible exact H2_) | (have H2_ := (Option.bind_some _ _).symm.trans H; with_reducible exact H2_) | with_reducible exact H | (rw [hy319]; exact H) | exact H
        have Ny319 := Aside0.mk hy319
        clear hy319
        replace H := Option.bind_eq_some_iff.mp H
        obtain ⟨t322, A90, H⟩ := H
        replace H : (if 0 ≤ (wrap64 (Int.tmod (IntKind.u64.wrap (a1)) 8)) then (if (wrap64 (Int.tmod (IntKind.u64.wrap (a1)) 8)) < (y319.length : Int) then ((some (([(⟨(rd_T38 y319 (wrap64 (Int.tmod (IntKind.u64.wrap (a1)) 8))).f0, (rd_T38 y319 (wrap64 (Int.tmod (IntKind.u64.wrap (a1)) 8))).f1⟩ : S38)] : List (S38)) : List (S38))).bind fun y326 => (if t322.length + y326.length < 3518437208883 then ((pipe_May.f t294).bind fun t332 => (if t332 = true then ((pipe_May.f (t322 ++ y326)).bind fun t333 => (if t333 = true then (stolelaw15_PipeMays.j1 k false) else (stolelaw15_PipeMays.j1 k (decide ((t294.length : Int) ≤ 8))))) else (stolelaw15_PipeMays.j1 k false))) else (none))) else (none)) else (none)) = some r := H
        have A9 := Aside0.mk A90
        clear A90
        obtain ⟨ji10, hji10⟩ : ∃ j_ : Int, (wrap64 (Int.tmod (IntKind.u64.wrap (a1)) 8)) = j_ := ⟨_, rfl⟩
        replace H : (if 0 ≤ (ji10) then (if (ji10) < (y319.length : Int) then ((some (([(⟨(rd_T38 y319 (ji10)).f0, (rd_T38 y319 (ji10)).f1⟩ : S38)] : List (S38)) : List (S38))).bind fun y326 => (if t322.length + y326.length < 3518437208883 then ((pipe_May.f t294).bind fun t332 => (if t332 = true then ((pipe_May.f (t322 ++ y326)).bind fun t333 => (if t333 = true then (stolelaw15_PipeMays.j1 k false) else (stolelaw15_PipeMays.j1 k (decide ((t294.length : Int) ≤ 8))))) else (stolelaw15_PipeMays.j1 k false))) else (none))) else (none)) else (none)) = some r := by first | (rw [hji10] at H; exact H) | (simp only [hji10] at H ⊢; exact H)
        (try rw [hji10] at A3)
        (try rw [hji10] at A5)
        (try rw [hji10] at A6)
        (try rw [hji10] at A9)
        have hji10w : (IntKind.i64.wrap (Int.tmod (IntKind.u64.wrap (a1)) 8)) = ji10 := (i64_w _).trans hji10
        by_cases c11 : 0 ≤ (ji10)
        · rw [if_pos c11] at H
          have c11b0 : decide (0 ≤ (ji10)) = true := decide_eq_true c11
          clear c11
          by_cases c12 : (ji10) < (y319.length : Int)
          · rw [if_pos c12] at H
            have c12b0 : decide ((ji10) < (y319.length : Int)) = true := decide_eq_true c12
            clear c12
            obtain ⟨y326, hy326⟩ : ∃ y_ : List (S38), y_ = (([(⟨(rd_T38 y319 (ji10)).f0, (rd_T38 y319 (ji10)).f1⟩ : S38)] : List (S38))) := ⟨_, rfl⟩
            replace H : (if t322.length + y326.length < 3518437208883 then ((pipe_May.f t294).bind fun t332 => (if t332 = true then ((pipe_May.f (t322 ++ y326)).bind fun t333 => (if t333 = true then (stolelaw15_PipeMays.j1 k false) else (stolelaw15_PipeMays.j1 k (decide ((t294.length : Int) ≤ 8))))) else (stolelaw15_PipeMays.j1 k false))) else (none)) = some r := by first | (rw [hy326]; with_reducible exact H) | (have H2_ := (Option.bind_some _ _).symm.trans H; rw [hy326]; with_reducible exact H2_) | (have H2_ := (Option.bind_some _ _).symm.trans H; with_reducible exact H2_) | with_reducible exact H | (rw [hy326]; exact H) | exact H
            have Ny326 := Aside0.mk hy326
            clear hy326
            by_cases c13 : t322.length + y326.length < 3518437208883
            · rw [if_pos c13] at H
              have LMc13 := Aside0.mk c13
              clear c13
              obtain ⟨y329, hy329⟩ : ∃ y_ : List (S38), y_ = (t322 ++ y326) := ⟨_, rfl⟩
              replace H : ((pipe_May.f t294).bind fun t332 => (if t332 = true then ((pipe_May.f y329).bind fun t333 => (if t333 = true then (stolelaw15_PipeMays.j1 k false) else (stolelaw15_PipeMays.j1 k (decide ((t294.length : Int) ≤ 8))))) else (stolelaw15_PipeMays.j1 k false))) = some r := by first | (rw [hy329]; with_reducible exact H) | (have H2_ := (Option.bind_some _ _).symm.trans H; rw [hy329]; with_reducible exact H2_) | (have H2_ := (Option.bind_some _ _).symm.trans H; with_reducible exact H2_) | with_reducible exact H | (rw [hy329]; exact H) | exact H
              have Ny329 := Aside0.mk hy329
              clear hy329
              have HC14 := Aside0.mk H
              clear H
              go_enter Try.func4, Try.ntmps4
              try go_wp2_with (first | ((with_reducible refine gate_callee (f := 15) rfl ?_); refine goesL_ (some 9) rfl rfl Try.func15 (by kernel_rfl) rfl #[] rfl (by (try simp only [List.map_toArray, List.map_cons, List.map_nil]); first | done | rfl | (simp only [List.length_drop, List.length_take]; rfl)) ?_; (with_reducible refine (stolelaw15_awake.calls k  true _ A3.out).mono ?_); rintro e w15 ⟨rfl, hb⟩; refine ⟨_, rfl, ?_⟩; have n0_ := Aside0.mk (below_step (by repeat (first | (with_reducible first | exact HB.out | apply below_alloc | apply pw_below_drewN | apply below_drew1) | exact HB.out)) hb); clear HB; have HB := n0_; clear n0_; (try clear hb); (try clear hb2); (try clear hk); (try clear hi)) | ((with_reducible refine gate_callee (f := 7) rfl ?_); refine goesL_ (some 13) rfl rfl Try.func7 (by kernel_rfl) rfl #[.slice A0 l0.length c0] rfl (by (try simp only [List.map_toArray, List.map_cons, List.map_nil]); first | done | rfl | (simp only [List.length_drop, List.length_take]; rfl)) ?_; (with_reducible refine (pipe_Parse.calls _ _ l0 t294 t295 _ ?side1 ?side2 A5.out).mono ?_); (case side1 => repeat (first | exact (Kd.C_below HR0.out HB.out) | (with_reducible refine Kd.C_alloc ?_ _) | (with_reducible refine Kd.C_drewN ?_ _) | (with_reducible refine Kd.C_drew ?_))); (case side2 => exact HC0.out); rintro e w16 ⟨v296, rfl, ho0, hb⟩; refine ⟨_, rfl, ?_⟩; have n0_ := Aside0.mk (Kd.N_lower (Kd.N_mono (ok' := fun k_ => True) (Kd.R_N (Kd.R_bound ho0)) (fun k_ hk_ => trivial)) (below_size (by repeat (first | (with_reducible first | exact HB.out | apply below_alloc | apply pw_below_drewN | apply below_drew1) | exact HB.out)))); have n1_ := Aside0.mk (below_step (by repeat (first | (with_reducible first | exact HB.out | apply below_alloc | apply pw_below_drewN | apply below_drew1) | exact HB.out)) hb); clear HB; have HO297 := n0_; have HB := n1_; clear n0_ n1_; (try clear hb); (try clear hb2); (try clear hk); (try clear hi); (try clear ho0)) | ((with_reducible refine gate_callee (f := 10) rfl ?_); refine goesL_ (some 17) rfl rfl Try.func10 (by kernel_rfl) rfl #[.int .i64 t295] rfl (by (try simp only [List.map_toArray, List.map_cons, List.map_nil]); first | done | rfl | (simp only [List.length_drop, List.length_take]; rfl)) ?_; (with_reducible refine (stolelaw0_Num.calls t295 t298 _ A6.out).mono ?_); rintro e w' ⟨rfl, ⟨nd, rfl⟩⟩; refine ⟨_, rfl, ?_⟩) | ((with_reducible refine gate_dst (N := 35) rfl ?_); (try (refine gate_guard (by rfl) ?_; dsimp only)); refine Kd.N_lit k41 _ 41 ?hg (N' := 35) ?hd (xs := ([(⟨2, (⟨#[]⟩ : ByteArray), ([] : List ByteArray), 1, (⟨#[]⟩ : ByteArray)⟩ : S41)] : List (S41))) (inner := [.int .i64 2, .string ⟨#[]⟩, .slice none 0 0, .int .i64 1, .string ⟨#[]⟩]) (ok := (fun k_ => some k_ ≠ (v296 : Value).ownBlock)) (okp := (fun k_ => some k_ ≠ (v296 : Value).ownBlock)) ?hr ?hp (fun _ hk => hk) ((show ∀ k_, w16.heap.size ≤ k_ → (fun k_ => some k_ ≠ (v296 : Value).ownBlock) k_ from fun k_ hk => Kd.fresh' (Kd.N_lt (by (with_reducible repeat (first | apply Kd.N_alloc | apply Kd.N_drewN | apply Kd.N_drew)); exact HO297.out)) k_ hk) _ (Nat.le_refl _)) (Below.refl _ _) (Nat.le_refl _) (by simp) ?_; (case hd => rfl); (case hg => rfl); (case hr => first | (go_simp; done) | (go_simp; rfl)); (case hp => exact (Reps.c5 (show Kd.FK k41 _ _ (⟨2, (⟨#[]⟩ : ByteArray), ([] : List ByteArray), 1, (⟨#[]⟩ : ByteArray)⟩ : S41) [.int .i64 2, .string ⟨#[]⟩, .slice none 0 0, .int .i64 1, .string ⟨#[]⟩] from (k41_mkF _ _ (⟨2, (⟨#[]⟩ : ByteArray), ([] : List ByteArray), 1, (⟨#[]⟩ : ByteArray)⟩ : S41) (Nat.le_refl _) (Kd.F_nil _ _ _))) (Reps.none _ _))); intro v302 w17 ho18 hb hg_ hnew_; clear hg_ hnew_; (first | rw [← Ny301.out] at ho18 | (simp only [Int.reduceToNat] at ho18; rw [← Ny301.out] at ho18)); have n0_ := Aside0.mk (Kd.N_elder' (by (with_reducible repeat (first | apply Kd.N_alloc | apply Kd.N_drewN | apply Kd.N_drew)); exact HO297.out) (Kd.N_base ho18) hb); have n1_ := Aside0.mk (Kd.N_lower ho18 (below_size (by repeat (first | (with_reducible first | exact HB.out | apply below_alloc | apply pw_below_drewN | apply below_drew1) | exact HB.out)))); have n2_ := Aside0.mk (below_step (by repeat (first | (with_reducible first | exact HB.out | apply below_alloc | apply pw_below_drewN | apply below_drew1) | exact HB.out)) hb); clear HO297; clear HB; have HO297 := n0_; have HO303 := n1_; have HB := n2_; clear n0_ n1_ n2_; clear hb ho18; obtain ⟨Ao19, co19, eo19⟩ := Kd.N_slice HO303.out; subst eo19) | ((with_reducible refine gate_dst (N := 38) rfl ?_); (try (refine gate_guard (by rfl) ?_; dsimp only)); refine Kd.N_lit k41 _ 41 ?hg (N' := 38) ?hd (xs := ([(⟨99, (⟨#[]⟩ : ByteArray), ([] : List ByteArray), 0, (⟨#[]⟩ : ByteArray)⟩ : S41)] : List (S41))) (inner := [.int .i64 99, .string ⟨#[]⟩, .slice none 0 0, .int .i64 0, .string ⟨#[]⟩]) (ok := (fun k_ => some k_ ≠ (v296 : Value).ownBlock ∧ some k_ ≠ (.slice Ao19 y301.length co19 : Value).ownBlock)) (okp := (fun k_ => some k_ ≠ (v296 : Value).ownBlock ∧ some k_ ≠ (.slice Ao19 y301.length co19 : Value).ownBlock)) ?hr ?hp (fun _ hk => hk) ((show ∀ k_, w17.heap.size ≤ k_ → (fun k_ => some k_ ≠ (v296 : Value).ownBlock ∧ some k_ ≠ (.slice Ao19 y301.length co19 : Value).ownBlock) k_ from fun k_ hk => ⟨Kd.fresh' (Kd.N_lt (by (with_reducible repeat (first | apply Kd.N_alloc | apply Kd.N_drewN | apply Kd.N_drew)); exact HO297.out)) k_ hk, Kd.fresh' (Kd.N_lt (by (with_reducible repeat (first | apply Kd.N_alloc | apply Kd.N_drewN | apply Kd.N_drew)); exact HO303.out)) k_ hk⟩) _ (Nat.le_refl _)) (Below.refl _ _) (Nat.le_refl _) (by simp) ?_; (case hd => rfl); (case hg => rfl); (case hr => first | (go_simp; done) | (go_simp; rfl)); (case hp => exact (Reps.c5 (show Kd.FK k41 _ _ (⟨99, (⟨#[]⟩ : ByteArray), ([] : List ByteArray), 0, (⟨#[]⟩ : ByteArray)⟩ : S41) [.int .i64 99, .string ⟨#[]⟩, .slice none 0 0, .int .i64 0, .string ⟨#[]⟩] from (k41_mkF _ _ (⟨99, (⟨#[]⟩ : ByteArray), ([] : List ByteArray), 0, (⟨#[]⟩ : ByteArray)⟩ : S41) (Nat.le_refl _) (Kd.F_nil _ _ _))) (Reps.none _ _))); intro v305 w20 ho21 hb hg_ hnew_; clear hg_ hnew_; (first | rw [← Ny304.out] at ho21 | (simp only [Int.reduceToNat] at ho21; rw [← Ny304.out] at ho21)); have n0_ := Aside0.mk (Kd.N_elder' (by (with_reducible repeat (first | apply Kd.N_alloc | apply Kd.N_drewN | apply Kd.N_drew)); exact HO297.out) (Kd.N_base ho21) hb); have n1_ := Aside0.mk (Kd.N_elder' (by (with_reducible repeat (first | apply Kd.N_alloc | apply Kd.N_drewN | apply Kd.N_drew)); exact HO303.out) (Kd.N_base ho21) hb); have n2_ := Aside0.mk (Kd.N_lower ho21 (below_size (by repeat (first | (with_reducible first | exact HB.out | apply below_alloc | apply pw_below_drewN | apply below_drew1) | exact HB.out)))); have n3_ := Aside0.mk (below_step (by repeat (first | (with_reducible first | exact HB.out | apply below_alloc | apply pw_below_drewN | apply below_drew1) | exact HB.out)) hb); clear HO297; clear HO303; clear HB; have HO297 := n0_; have HO303 := n1_; have HO306 := n2_; have HB := n3_; clear n0_ n1_ n2_ n3_; clear hb ho21; obtain ⟨Ao22, co22, eo22⟩ := Kd.N_slice HO306.out; subst eo22) | ((with_reducible refine gate_dst (N := 41) rfl ?_); (try (refine gate_guard (by rfl) ?_; dsimp only)); refine Kd.N_lit k41 _ 41 ?hg (N' := 41) ?hd (xs := ([(⟨1, (⟨#[]⟩ : ByteArray), ([] : List ByteArray), 0, (⟨#[]⟩ : ByteArray)⟩ : S41)] : List (S41))) (inner := [.int .i64 1, .string ⟨#[]⟩, .slice none 0 0, .int .i64 0, .string ⟨#[]⟩]) (ok := (fun k_ => some k_ ≠ (v296 : Value).ownBlock ∧ some k_ ≠ (.slice Ao19 y301.length co19 : Value).ownBlock ∧ some k_ ≠ (.slice Ao22 y304.length co22 : Value).ownBlock)) (okp := (fun k_ => some k_ ≠ (v296 : Value).ownBlock ∧ some k_ ≠ (.slice Ao19 y301.length co19 : Value).ownBlock ∧ some k_ ≠ (.slice Ao22 y304.length co22 : Value).ownBlock)) ?hr ?hp (fun _ hk => hk) ((show ∀ k_, w20.heap.size ≤ k_ → (fun k_ => some k_ ≠ (v296 : Value).ownBlock ∧ some k_ ≠ (.slice Ao19 y301.length co19 : Value).ownBlock ∧ some k_ ≠ (.slice Ao22 y304.length co22 : Value).ownBlock) k_ from fun k_ hk => ⟨Kd.fresh' (Kd.N_lt (by (with_reducible repeat (first | apply Kd.N_alloc | apply Kd.N_drewN | apply Kd.N_drew)); exact HO297.out)) k_ hk, Kd.fresh' (Kd.N_lt (by (with_reducible repeat (first | apply Kd.N_alloc | apply Kd.N_drewN | apply Kd.N_drew)); exact HO303.out)) k_ hk, Kd.fresh' (Kd.N_lt (by (with_reducible repeat (first | apply Kd.N_alloc | apply Kd.N_drewN | apply Kd.N_drew)); exact HO306.out)) k_ hk⟩) _ (Nat.le_refl _)) (Below.refl _ _) (Nat.le_refl _) (by simp) ?_; (case hd => rfl); (case hg => rfl); (case hr => first | (go_simp; done) | (go_simp; rfl)); (case hp => exact (Reps.c5 (show Kd.FK k41 _ _ (⟨1, (⟨#[]⟩ : ByteArray), ([] : List ByteArray), 0, (⟨#[]⟩ : ByteArray)⟩ : S41) [.int .i64 1, .string ⟨#[]⟩, .slice none 0 0, .int .i64 0, .string ⟨#[]⟩] from (k41_mkF _ _ (⟨1, (⟨#[]⟩ : ByteArray), ([] : List ByteArray), 0, (⟨#[]⟩ : ByteArray)⟩ : S41) (Nat.le_refl _) (Kd.F_nil _ _ _))) (Reps.none _ _))); intro v308 w23 ho24 hb hg_ hnew_; clear hg_ hnew_; (first | rw [← Ny307.out] at ho24 | (simp only [Int.reduceToNat] at ho24; rw [← Ny307.out] at ho24)); have n0_ := Aside0.mk (Kd.N_elder' (by (with_reducible repeat (first | apply Kd.N_alloc | apply Kd.N_drewN | apply Kd.N_drew)); exact HO297.out) (Kd.N_base ho24) hb); have n1_ := Aside0.mk (Kd.N_elder' (by (with_reducible repeat (first | apply Kd.N_alloc | apply Kd.N_drewN | apply Kd.N_drew)); exact HO303.out) (Kd.N_base ho24) hb); have n2_ := Aside0.mk (Kd.N_elder' (by (with_reducible repeat (first | apply Kd.N_alloc | apply Kd.N_drewN | apply Kd.N_drew)); exact HO306.out) (Kd.N_base ho24) hb); have n3_ := Aside0.mk (Kd.N_lower ho24 (below_size (by repeat (first | (with_reducible first | exact HB.out | apply below_alloc | apply pw_below_drewN | apply below_drew1) | exact HB.out)))); have n4_ := Aside0.mk (below_step (by repeat (first | (with_reducible first | exact HB.out | apply below_alloc | apply pw_below_drewN | apply below_drew1) | exact HB.out)) hb); clear HO297; clear HO303; clear HO306; clear HB; have HO297 := n0_; have HO303 := n1_; have HO306 := n2_; have HO309 := n3_; have HB := n4_; clear n0_ n1_ n2_ n3_ n4_; clear hb ho24; obtain ⟨Ao25, co25, eo25⟩ := Kd.N_slice HO309.out; subst eo25) | ((with_reducible refine gate_dst (N := 44) rfl ?_); (try (refine gate_guard (by rfl) ?_; dsimp only)); refine Kd.N_lit k41 _ 41 ?hg (N' := 44) ?hd (xs := ([(⟨4, (⟨#[]⟩ : ByteArray), ([] : List ByteArray), 2, (⟨#[]⟩ : ByteArray)⟩ : S41)] : List (S41))) (inner := [.int .i64 4, .string ⟨#[]⟩, .slice none 0 0, .int .i64 2, .string ⟨#[]⟩]) (ok := (fun k_ => some k_ ≠ (v296 : Value).ownBlock ∧ some k_ ≠ (.slice Ao19 y301.length co19 : Value).ownBlock ∧ some k_ ≠ (.slice Ao22 y304.length co22 : Value).ownBlock ∧ some k_ ≠ (.slice Ao25 y307.length co25 : Value).ownBlock)) (okp := (fun k_ => some k_ ≠ (v296 : Value).ownBlock ∧ some k_ ≠ (.slice Ao19 y301.length co19 : Value).ownBlock ∧ some k_ ≠ (.slice Ao22 y304.length co22 : Value).ownBlock ∧ some k_ ≠ (.slice Ao25 y307.length co25 : Value).ownBlock)) ?hr ?hp (fun _ hk => hk) ((show ∀ k_, w23.heap.size ≤ k_ → (fun k_ => some k_ ≠ (v296 : Value).ownBlock ∧ some k_ ≠ (.slice Ao19 y301.length co19 : Value).ownBlock ∧ some k_ ≠ (.slice Ao22 y304.length co22 : Value).ownBlock ∧ some k_ ≠ (.slice Ao25 y307.length co25 : Value).ownBlock) k_ from fun k_ hk => ⟨Kd.fresh' (Kd.N_lt (by (with_reducible repeat (first | apply Kd.N_alloc | apply Kd.N_drewN | apply Kd.N_drew)); exact HO297.out)) k_ hk, Kd.fresh' (Kd.N_lt (by (with_reducible repeat (first | apply Kd.N_alloc | apply Kd.N_drewN | apply Kd.N_drew)); exact HO303.out)) k_ hk, Kd.fresh' (Kd.N_lt (by (with_reducible repeat (first | apply Kd.N_alloc | apply Kd.N_drewN | apply Kd.N_drew)); exact HO306.out)) k_ hk, Kd.fresh' (Kd.N_lt (by (with_reducible repeat (first | apply Kd.N_alloc | apply Kd.N_drewN | apply Kd.N_drew)); exact HO309.out)) k_ hk⟩) _ (Nat.le_refl _)) (Below.refl _ _) (Nat.le_refl _) (by simp) ?_; (case hd => rfl); (case hg => rfl); (case hr => first | (go_simp; done) | (go_simp; rfl)); (case hp => exact (Reps.c5 (show Kd.FK k41 _ _ (⟨4, (⟨#[]⟩ : ByteArray), ([] : List ByteArray), 2, (⟨#[]⟩ : ByteArray)⟩ : S41) [.int .i64 4, .string ⟨#[]⟩, .slice none 0 0, .int .i64 2, .string ⟨#[]⟩] from (k41_mkF _ _ (⟨4, (⟨#[]⟩ : ByteArray), ([] : List ByteArray), 2, (⟨#[]⟩ : ByteArray)⟩ : S41) (Nat.le_refl _) (Kd.F_nil _ _ _))) (Reps.none _ _))); intro v311 w26 ho27 hb hg_ hnew_; clear hg_ hnew_; (first | rw [← Ny310.out] at ho27 | (simp only [Int.reduceToNat] at ho27; rw [← Ny310.out] at ho27)); have n0_ := Aside0.mk (Kd.N_elder' (by (with_reducible repeat (first | apply Kd.N_alloc | apply Kd.N_drewN | apply Kd.N_drew)); exact HO297.out) (Kd.N_base ho27) hb); have n1_ := Aside0.mk (Kd.N_elder' (by (with_reducible repeat (first | apply Kd.N_alloc | apply Kd.N_drewN | apply Kd.N_drew)); exact HO303.out) (Kd.N_base ho27) hb); have n2_ := Aside0.mk (Kd.N_elder' (by (with_reducible repeat (first | apply Kd.N_alloc | apply Kd.N_drewN | apply Kd.N_drew)); exact HO306.out) (Kd.N_base ho27) hb); have n3_ := Aside0.mk (Kd.N_elder' (by (with_reducible repeat (first | apply Kd.N_alloc | apply Kd.N_drewN | apply Kd.N_drew)); exact HO309.out) (Kd.N_base ho27) hb); have n4_ := Aside0.mk (Kd.N_lower ho27 (below_size (by repeat (first | (with_reducible first | exact HB.out | apply below_alloc | apply pw_below_drewN | apply below_drew1) | exact HB.out)))); have n5_ := Aside0.mk (below_step (by repeat (first | (with_reducible first | exact HB.out | apply below_alloc | apply pw_below_drewN | apply below_drew1) | exact HB.out)) hb); clear HO297; clear HO303; clear HO306; clear HO309; clear HB; have HO297 := n0_; have HO303 := n1_; have HO306 := n2_; have HO309 := n3_; have HO312 := n4_; have HB := n5_; clear n0_ n1_ n2_ n3_ n4_ n5_; clear hb ho27; obtain ⟨Ao28, co28, eo28⟩ := Kd.N_slice HO312.out; subst eo28) | ((with_reducible refine gate_dst (N := 47) rfl ?_); (try (refine gate_guard (by rfl) ?_; dsimp only)); refine Kd.N_lit k41 _ 41 ?hg (N' := 47) ?hd (xs := ([(⟨5, (⟨#[]⟩ : ByteArray), ([] : List ByteArray), 0, (⟨#[120]⟩ : ByteArray)⟩ : S41)] : List (S41))) (inner := [.int .i64 5, .string ⟨#[]⟩, .slice none 0 0, .int .i64 0, .string ⟨#[120]⟩]) (ok := (fun k_ => some k_ ≠ (v296 : Value).ownBlock ∧ some k_ ≠ (.slice Ao19 y301.length co19 : Value).ownBlock ∧ some k_ ≠ (.slice Ao22 y304.length co22 : Value).ownBlock ∧ some k_ ≠ (.slice Ao25 y307.length co25 : Value).ownBlock ∧ some k_ ≠ (.slice Ao28 y310.length co28 : Value).ownBlock)) (okp := (fun k_ => some k_ ≠ (v296 : Value).ownBlock ∧ some k_ ≠ (.slice Ao19 y301.length co19 : Value).ownBlock ∧ some k_ ≠ (.slice Ao22 y304.length co22 : Value).ownBlock ∧ some k_ ≠ (.slice Ao25 y307.length co25 : Value).ownBlock ∧ some k_ ≠ (.slice Ao28 y310.length co28 : Value).ownBlock)) ?hr ?hp (fun _ hk => hk) ((show ∀ k_, w26.heap.size ≤ k_ → (fun k_ => some k_ ≠ (v296 : Value).ownBlock ∧ some k_ ≠ (.slice Ao19 y301.length co19 : Value).ownBlock ∧ some k_ ≠ (.slice Ao22 y304.length co22 : Value).ownBlock ∧ some k_ ≠ (.slice Ao25 y307.length co25 : Value).ownBlock ∧ some k_ ≠ (.slice Ao28 y310.length co28 : Value).ownBlock) k_ from fun k_ hk => ⟨Kd.fresh' (Kd.N_lt (by (with_reducible repeat (first | apply Kd.N_alloc | apply Kd.N_drewN | apply Kd.N_drew)); exact HO297.out)) k_ hk, Kd.fresh' (Kd.N_lt (by (with_reducible repeat (first | apply Kd.N_alloc | apply Kd.N_drewN | apply Kd.N_drew)); exact HO303.out)) k_ hk, Kd.fresh' (Kd.N_lt (by (with_reducible repeat (first | apply Kd.N_alloc | apply Kd.N_drewN | apply Kd.N_drew)); exact HO306.out)) k_ hk, Kd.fresh' (Kd.N_lt (by (with_reducible repeat (first | apply Kd.N_alloc | apply Kd.N_drewN | apply Kd.N_drew)); exact HO309.out)) k_ hk, Kd.fresh' (Kd.N_lt (by (with_reducible repeat (first | apply Kd.N_alloc | apply Kd.N_drewN | apply Kd.N_drew)); exact HO312.out)) k_ hk⟩) _ (Nat.le_refl _)) (Below.refl _ _) (Nat.le_refl _) (by simp) ?_; (case hd => rfl); (case hg => rfl); (case hr => first | (go_simp; done) | (go_simp; rfl)); (case hp => exact (Reps.c5 (show Kd.FK k41 _ _ (⟨5, (⟨#[]⟩ : ByteArray), ([] : List ByteArray), 0, (⟨#[120]⟩ : ByteArray)⟩ : S41) [.int .i64 5, .string ⟨#[]⟩, .slice none 0 0, .int .i64 0, .string ⟨#[120]⟩] from (k41_mkF _ _ (⟨5, (⟨#[]⟩ : ByteArray), ([] : List ByteArray), 0, (⟨#[120]⟩ : ByteArray)⟩ : S41) (Nat.le_refl _) (Kd.F_nil _ _ _))) (Reps.none _ _))); intro v314 w29 ho30 hb hg_ hnew_; clear hg_ hnew_; (first | rw [← Ny313.out] at ho30 | (simp only [Int.reduceToNat] at ho30; rw [← Ny313.out] at ho30)); have n0_ := Aside0.mk (Kd.N_elder' (by (with_reducible repeat (first | apply Kd.N_alloc | apply Kd.N_drewN | apply Kd.N_drew)); exact HO297.out) (Kd.N_base ho30) hb); have n1_ := Aside0.mk (Kd.N_elder' (by (with_reducible repeat (first | apply Kd.N_alloc | apply Kd.N_drewN | apply Kd.N_drew)); exact HO303.out) (Kd.N_base ho30) hb); have n2_ := Aside0.mk (Kd.N_elder' (by (with_reducible repeat (first | apply Kd.N_alloc | apply Kd.N_drewN | apply Kd.N_drew)); exact HO306.out) (Kd.N_base ho30) hb); have n3_ := Aside0.mk (Kd.N_elder' (by (with_reducible repeat (first | apply Kd.N_alloc | apply Kd.N_drewN | apply Kd.N_drew)); exact HO309.out) (Kd.N_base ho30) hb); have n4_ := Aside0.mk (Kd.N_elder' (by (with_reducible repeat (first | apply Kd.N_alloc | apply Kd.N_drewN | apply Kd.N_drew)); exact HO312.out) (Kd.N_base ho30) hb); have n5_ := Aside0.mk (Kd.N_lower ho30 (below_size (by repeat (first | (with_reducible first | exact HB.out | apply below_alloc | apply pw_below_drewN | apply below_drew1) | exact HB.out)))); have n6_ := Aside0.mk (below_step (by repeat (first | (with_reducible first | exact HB.out | apply below_alloc | apply pw_below_drewN | apply below_drew1) | exact HB.out)) hb); clear HO297; clear HO303; clear HO306; clear HO309; clear HO312; clear HB; have HO297 := n0_; have HO303 := n1_; have HO306 := n2_; have HO309 := n3_; have HO312 := n4_; have HO315 := n5_; have HB := n6_; clear n0_ n1_ n2_ n3_ n4_ n5_ n6_; clear hb ho30; obtain ⟨Ao31, co31, eo31⟩ := Kd.N_slice HO315.out; subst eo31) | ((with_reducible refine gate_dst (N := 49) rfl ?_); (try (refine gate_guard (by rfl) ?_; dsimp only)); refine Kd.N_make k41 _ 41 rfl (N' := 49) rfl 36 _ _ rfl 9 rfl rfl Try.underlying36 (.agg #[(.int .i64 0), (.string ⟨#[]⟩), (.slice none 0 0), (.int .i64 0), (.string ⟨#[]⟩)]) 72 info41 rfl (by decide) (by omega) z41 (ok := fun k_ => w29.heap.size ≤ k_) (okp := fun _ => False) (k41_mkF _ _ z41 (Nat.le_refl _) (Kd.F_nil _ _ _)) (fun _ hk => hk.elim) (Nat.le_refl _) (by omega) (by omega) (Below.refl _ _) (Nat.le_refl _) ?_; intro v317 w32 ho33 hb hg_ hnew_; clear hg_ hnew_; (first | rw [← Ny316.out] at ho33 | (simp only [Int.reduceToNat] at ho33; rw [← Ny316.out] at ho33)); have n0_ := Aside0.mk (Kd.N_elder' (by (with_reducible repeat (first | apply Kd.N_alloc | apply Kd.N_drewN | apply Kd.N_drew)); exact HO297.out) (Kd.N_base ho33) hb); have n1_ := Aside0.mk (Kd.N_elder' (by (with_reducible repeat (first | apply Kd.N_alloc | apply Kd.N_drewN | apply Kd.N_drew)); exact HO303.out) (Kd.N_base ho33) hb); have n2_ := Aside0.mk (Kd.N_elder' (by (with_reducible repeat (first | apply Kd.N_alloc | apply Kd.N_drewN | apply Kd.N_drew)); exact HO306.out) (Kd.N_base ho33) hb); have n3_ := Aside0.mk (Kd.N_elder' (by (with_reducible repeat (first | apply Kd.N_alloc | apply Kd.N_drewN | apply Kd.N_drew)); exact HO309.out) (Kd.N_base ho33) hb); have n4_ := Aside0.mk (Kd.N_elder' (by (with_reducible repeat (first | apply Kd.N_alloc | apply Kd.N_drewN | apply Kd.N_drew)); exact HO312.out) (Kd.N_base ho33) hb); have n5_ := Aside0.mk (Kd.N_elder' (by (with_reducible repeat (first | apply Kd.N_alloc | apply Kd.N_drewN | apply Kd.N_drew)); exact HO315.out) (Kd.N_base ho33) hb); have n6_ := Aside0.mk (Kd.N_lower (Kd.N_mono (ok' := fun k_ => some k_ ≠ (v296 : Value).ownBlock ∧ some k_ ≠ (.slice Ao19 y301.length co19 : Value).ownBlock ∧ some k_ ≠ (.slice Ao22 y304.length co22 : Value).ownBlock ∧ some k_ ≠ (.slice Ao25 y307.length co25 : Value).ownBlock ∧ some k_ ≠ (.slice Ao28 y310.length co28 : Value).ownBlock ∧ some k_ ≠ (.slice Ao31 y313.length co31 : Value).ownBlock) ho33 (fun k_ hk_ => ⟨(Kd.fresh' (Kd.N_lt (by (with_reducible repeat (first | apply Kd.N_alloc | apply Kd.N_drewN | apply Kd.N_drew)); exact HO297.out)) k_ hk_), (Kd.fresh' (Kd.N_lt (by (with_reducible repeat (first | apply Kd.N_alloc | apply Kd.N_drewN | apply Kd.N_drew)); exact HO303.out)) k_ hk_), (Kd.fresh' (Kd.N_lt (by (with_reducible repeat (first | apply Kd.N_alloc | apply Kd.N_drewN | apply Kd.N_drew)); exact HO306.out)) k_ hk_), (Kd.fresh' (Kd.N_lt (by (with_reducible repeat (first | apply Kd.N_alloc | apply Kd.N_drewN | apply Kd.N_drew)); exact HO309.out)) k_ hk_), (Kd.fresh' (Kd.N_lt (by (with_reducible repeat (first | apply Kd.N_alloc | apply Kd.N_drewN | apply Kd.N_drew)); exact HO312.out)) k_ hk_), (Kd.fresh' (Kd.N_lt (by (with_reducible repeat (first | apply Kd.N_alloc | apply Kd.N_drewN | apply Kd.N_drew)); exact HO315.out)) k_ hk_)⟩)) (below_size (by repeat (first | (with_reducible first | exact HB.out | apply below_alloc | apply pw_below_drewN | apply below_drew1) | exact HB.out)))); have n7_ := Aside0.mk (below_step (by repeat (first | (with_reducible first | exact HB.out | apply below_alloc | apply pw_below_drewN | apply below_drew1) | exact HB.out)) hb); clear HO297; clear HO303; clear HO306; clear HO309; clear HO312; clear HO315; clear HB; have HO297 := n0_; have HO303 := n1_; have HO306 := n2_; have HO309 := n3_; have HO312 := n4_; have HO315 := n5_; have HO318 := n6_; have HB := n7_; clear n0_ n1_ n2_ n3_ n4_ n5_ n6_ n7_; clear hb ho33; obtain ⟨Ao34, co34, eo34⟩ := Kd.N_slice HO318.out; subst eo34) | ((with_reducible refine gate_dst (N := 51) rfl ?_); (try (refine gate_guard (by rfl) ?_; dsimp only)); refine Kd.N_lit k38 _ 38 ?hg (N' := 51) ?hd (xs := ([(⟨(⟨#[]⟩ : ByteArray), ([] : List (S41))⟩ : S38), (⟨(⟨#[102, 111, 111]⟩ : ByteArray), ([] : List (S41))⟩ : S38), (⟨(⟨#[]⟩ : ByteArray), y301⟩ : S38), (⟨(⟨#[99, 97, 116]⟩ : ByteArray), y304⟩ : S38), (⟨(⟨#[99, 97, 116]⟩ : ByteArray), y307⟩ : S38), (⟨(⟨#[99, 97, 116]⟩ : ByteArray), y310⟩ : S38), (⟨(⟨#[99, 97, 116]⟩ : ByteArray), y313⟩ : S38), (⟨(⟨#[99, 97, 116]⟩ : ByteArray), y316⟩ : S38)] : List (S38))) (inner := [.string ⟨#[]⟩, .slice none 0 0, .string ⟨#[102, 111, 111]⟩, .slice none 0 0, .string ⟨#[]⟩, .slice Ao19 y301.length co19, .string ⟨#[99, 97, 116]⟩, .slice Ao22 y304.length co22, .string ⟨#[99, 97, 116]⟩, .slice Ao25 y307.length co25, .string ⟨#[99, 97, 116]⟩, .slice Ao28 y310.length co28, .string ⟨#[99, 97, 116]⟩, .slice Ao31 y313.length co31, .string ⟨#[99, 97, 116]⟩, .slice Ao34 y316.length co34]) (ok := (fun k_ => some k_ ≠ (v296 : Value).ownBlock)) (okp := (fun k_ => some k_ ≠ (v296 : Value).ownBlock)) ?hr ?hp (fun _ hk => hk) ((show ∀ k_, w32.heap.size ≤ k_ → (fun k_ => some k_ ≠ (v296 : Value).ownBlock) k_ from fun k_ hk => Kd.fresh' (Kd.N_lt (by (with_reducible repeat (first | apply Kd.N_alloc | apply Kd.N_drewN | apply Kd.N_drew)); exact HO297.out)) k_ hk) _ (Nat.le_refl _)) (Below.refl _ _) (Nat.le_refl _) (by simp) ?_; (case hd => rfl); (case hg => rfl); (case hr => first | (go_simp; done) | (go_simp; rfl)); (case hp => exact (Reps.c2 (show Kd.FK k38 _ _ (⟨(⟨#[]⟩ : ByteArray), ([] : List (S41))⟩ : S38) [.string ⟨#[]⟩, .slice none 0 0] from (k38_mkF _ _ (⟨(⟨#[]⟩ : ByteArray), ([] : List (S41))⟩ : S38) (Nat.le_refl _) (Kd.F_nil _ _ _))) (Reps.c2 (show Kd.FK k38 _ _ (⟨(⟨#[102, 111, 111]⟩ : ByteArray), ([] : List (S41))⟩ : S38) [.string ⟨#[102, 111, 111]⟩, .slice none 0 0] from (k38_mkF _ _ (⟨(⟨#[102, 111, 111]⟩ : ByteArray), ([] : List (S41))⟩ : S38) (Nat.le_refl _) (Kd.F_nil _ _ _))) (Reps.c2 (show Kd.FK k38 _ _ (⟨(⟨#[]⟩ : ByteArray), y301⟩ : S38) [.string ⟨#[]⟩, .slice Ao19 y301.length co19] from (k38_mkF _ _ (⟨(⟨#[]⟩ : ByteArray), y301⟩ : S38) (Kd.N_reads' (Kd.N_mono (ok' := (fun k_ => some k_ ≠ (v296 : Value).ownBlock)) (HO303.out) (fun k_ hk => hk.1.1.1.1.1))).2.1 (Kd.N_F (Kd.N_mono (ok' := (fun k_ => some k_ ≠ (v296 : Value).ownBlock)) (HO303.out) (fun k_ hk => hk.1.1.1.1.1))))) (Reps.c2 (show Kd.FK k38 _ _ (⟨(⟨#[99, 97, 116]⟩ : ByteArray), y304⟩ : S38) [.string ⟨#[99, 97, 116]⟩, .slice Ao22 y304.length co22] from (k38_mkF _ _ (⟨(⟨#[99, 97, 116]⟩ : ByteArray), y304⟩ : S38) (Kd.N_reads' (Kd.N_mono (ok' := (fun k_ => some k_ ≠ (v296 : Value).ownBlock)) (HO306.out) (fun k_ hk => hk.1.1.1.1.1))).2.1 (Kd.N_F (Kd.N_mono (ok' := (fun k_ => some k_ ≠ (v296 : Value).ownBlock)) (HO306.out) (fun k_ hk => hk.1.1.1.1.1))))) (Reps.c2 (show Kd.FK k38 _ _ (⟨(⟨#[99, 97, 116]⟩ : ByteArray), y307⟩ : S38) [.string ⟨#[99, 97, 116]⟩, .slice Ao25 y307.length co25] from (k38_mkF _ _ (⟨(⟨#[99, 97, 116]⟩ : ByteArray), y307⟩ : S38) (Kd.N_reads' (Kd.N_mono (ok' := (fun k_ => some k_ ≠ (v296 : Value).ownBlock)) (HO309.out) (fun k_ hk => hk.1.1.1.1))).2.1 (Kd.N_F (Kd.N_mono (ok' := (fun k_ => some k_ ≠ (v296 : Value).ownBlock)) (HO309.out) (fun k_ hk => hk.1.1.1.1))))) (Reps.c2 (show Kd.FK k38 _ _ (⟨(⟨#[99, 97, 116]⟩ : ByteArray), y310⟩ : S38) [.string ⟨#[99, 97, 116]⟩, .slice Ao28 y310.length co28] from (k38_mkF _ _ (⟨(⟨#[99, 97, 116]⟩ : ByteArray), y310⟩ : S38) (Kd.N_reads' (Kd.N_mono (ok' := (fun k_ => some k_ ≠ (v296 : Value).ownBlock)) (HO312.out) (fun k_ hk => hk.1.1.1))).2.1 (Kd.N_F (Kd.N_mono (ok' := (fun k_ => some k_ ≠ (v296 : Value).ownBlock)) (HO312.out) (fun k_ hk => hk.1.1.1))))) (Reps.c2 (show Kd.FK k38 _ _ (⟨(⟨#[99, 97, 116]⟩ : ByteArray), y313⟩ : S38) [.string ⟨#[99, 97, 116]⟩, .slice Ao31 y313.length co31] from (k38_mkF _ _ (⟨(⟨#[99, 97, 116]⟩ : ByteArray), y313⟩ : S38) (Kd.N_reads' (Kd.N_mono (ok' := (fun k_ => some k_ ≠ (v296 : Value).ownBlock)) (HO315.out) (fun k_ hk => hk.1.1))).2.1 (Kd.N_F (Kd.N_mono (ok' := (fun k_ => some k_ ≠ (v296 : Value).ownBlock)) (HO315.out) (fun k_ hk => hk.1.1))))) (Reps.c2 (show Kd.FK k38 _ _ (⟨(⟨#[99, 97, 116]⟩ : ByteArray), y316⟩ : S38) [.string ⟨#[99, 97, 116]⟩, .slice Ao34 y316.length co34] from (k38_mkF _ _ (⟨(⟨#[99, 97, 116]⟩ : ByteArray), y316⟩ : S38) (Kd.N_reads' (Kd.N_mono (ok' := (fun k_ => some k_ ≠ (v296 : Value).ownBlock)) (HO318.out) (fun k_ hk => hk.1))).2.1 (Kd.N_F (Kd.N_mono (ok' := (fun k_ => some k_ ≠ (v296 : Value).ownBlock)) (HO318.out) (fun k_ hk => hk.1))))) (Reps.none _ _)))))))))); intro v320 w35 ho36 hb hg_ hnew_; clear hg_ hnew_; (first | rw [← Ny319.out] at ho36 | (simp only [Int.reduceToNat] at ho36; rw [← Ny319.out] at ho36)); have n0_ := Aside0.mk (Kd.N_elder' (by (with_reducible repeat (first | apply Kd.N_alloc | apply Kd.N_drewN | apply Kd.N_drew)); exact HO297.out) (Kd.N_base ho36) hb); have n1_ := Aside0.mk (Kd.N_lower ho36 (below_size (by repeat (first | (with_reducible first | exact HB.out | apply below_alloc | apply pw_below_drewN | apply below_drew1) | exact HB.out)))); have n2_ := Aside0.mk (below_step (by repeat (first | (with_reducible first | exact HB.out | apply below_alloc | apply pw_below_drewN | apply below_drew1) | exact HB.out)) hb); clear HO297; clear HB; clear HO303; clear HO306; clear HO309; clear HO312; clear HO315; clear HO318; have HO297 := n0_; have HO321 := n1_; have HB := n2_; clear n0_ n1_ n2_; clear hb ho36; obtain ⟨Ao37, co37, eo37⟩ := Kd.N_slice HO297.out; subst eo37))
              have n0_ := Aside0.mk (Kd.N_drew HO297.out)
              have n1_ := Aside0.mk (Kd.N_drew HO321.out)
              have n2_ := Aside0.mk (below_drew1 HB.out)
              clear HO297
              clear HO321
              clear HB
              have HO297 := n0_
              have HO321 := n1_
              have HB := n2_
              clear n0_ n1_ n2_
              obtain ⟨Ao39, co39, eo39⟩ := Kd.N_slice HO321.out
              (first | subst eo39 | (injection eo39 with f1_ f2_ f3_; have f4_ := f1_.symm; have f5_ := f3_.symm; clear f1_ f2_ f3_; subst f4_; subst f5_))
              have p325 : 0 ≤ ((ji10) : Int) := of_decide_eq_true (by first | (with_reducible assumption) | assumption)
              have q325 : (ji10) < (y319.length : Int) := of_decide_eq_true (by first | (with_reducible assumption) | assumption)
              obtain ⟨ad325, A325_1, c325_1, e325, hx325_0, hx325_1, hl325_1, hi325_1⟩ := at_T38 (Kd.N_reads' HO321.out).2.2 (ji10) p325 q325
              cases e325
              obtain ⟨ce325, hce325, hMe325, hcc325⟩ := Kd.N_get HO321.out z38 (ji10) p325 (by first | exact q325 | exact of_decide_eq_true (by first | (with_reducible assumption) | assumption) | (have e_ := (Kd.N_reads' HO321.out).1; omega))
              obtain ⟨ua325_1, uc325_1, rfl, ul325_1, ge325_1⟩ := k38_openF hMe325
              have hv325_1 := hcc325 1 _ rfl
              rw [add_field _ _ 1 (by omega)] at hv325_1
              replace hv325_1 := Option.some.inj (hv325_1.symm.trans hx325_1)
              injection hv325_1 with hva_ hvn_ hvc_
              rw [hva_] at ge325_1
              rw [hvc_] at ul325_1
              have HL325_1 := Aside0.mk (show Kd.V k41 41 _ w.heap.size _ _ ((rd_T38 y319 (ji10)).f1) from Kd.V_mk ul325_1 ge325_1)
              clear hva_ hvn_ hvc_ ge325_1 ul325_1
              clear hcc325 hce325
              have HR325_1 := Aside0.mk hi325_1
              have HC325_1 := Aside0.mk hl325_1
              clear hi325_1 hl325_1
              replace p325 := eq_true p325
              replace q325 := eq_true q325
              refine start_ (n := 12) (S := fun w' => w'.cell? (ad325.add (((ji10)).toNat * 2)) = some (.string ((rd_T38 y319 (ji10)).f0)) ∧ w'.cell? ⟨(ad325.add (((ji10)).toNat * 2)).block, (ad325.add (((ji10)).toNat * 2)).off + 1, none⟩ = some (.slice A325_1 ((rd_T38 y319 (ji10)).f1).length c325_1)) (ds := [10]) #[false, false, false, false, false, false, false, false, false, false, false, false] (by kernel_rfl) rfl rfl ⟨hx325_0, hx325_1⟩ (fun hHeld => ?_); refine with_tabW stolelaw15_PipeMays.tab7 stolelaw15_PipeMays.bits7 (fun HT_ HW_ => ?_)
              generalize w35.drew = w38 at HO297 HO321 HB HL325_1 HR325_1 hx325_0 hx325_1 hHeld ⊢
              refine pure_ (i := 0) (N := some 52) (v := ?_) (a' := ?_) #[true, false, false, false, false, false, false, false, false, false, false, false] rfl rfl (any_of HT_.out (by kernel_rfl)) (fun _ _ _ h => h) (Or.inl ⟨by rfl, ?_⟩) ?_ ?_
              rotate_left
              · intro w'
                go_simp
                with_reducible rfl
              rotate_left
              · simp only [Act.put, List.setIfInBounds_toArray, List.set_cons_zero, List.set_cons_succ, i64_w, i32_w]
                rfl
              refine pure_ (i := 2) (N := some 54) (v := ?_) (a' := ?_) #[true, false, true, false, false, false, false, false, false, false, false, false] rfl rfl (any_of HT_.out (by kernel_rfl)) (fun _ _ _ h => h) (Or.inl ⟨by rfl, ?_⟩) ?_ ?_
              rotate_left
              · intro w'
                go_simp
                with_reducible rfl
              rotate_left
              · simp only [Act.put, List.setIfInBounds_toArray, List.set_cons_zero, List.set_cons_succ, i64_w, i32_w]
                rfl
              refine pure_ (i := 3) (N := some 55) (v := ?_) (a' := ?_) #[true, false, true, true, false, false, false, false, false, false, false, false] rfl rfl (any_of HT_.out (by kernel_rfl)) (fun _ _ _ h => h) (Or.inl ⟨by rfl, ?_⟩) ?_ ?_
              rotate_left
              · intro w'
                go_simp
                with_reducible rfl
              rotate_left
              · simp only [Act.put, List.setIfInBounds_toArray, List.set_cons_zero, List.set_cons_succ, i64_w, i32_w]
                rfl
              refine pure_ (i := 4) (N := some 56) (v := ?_) (a' := ?_) #[true, false, true, true, true, false, false, false, false, false, false, false] rfl rfl (any_of HT_.out (by kernel_rfl)) (fun _ _ _ h => h) (Or.inl ⟨by rfl, ?_⟩) ?_ ?_
              rotate_left
              · intro w'
                go_simp
                with_reducible rfl
              rotate_left
              · simp only [Act.put, List.setIfInBounds_toArray, List.set_cons_zero, List.set_cons_succ, i64_w, i32_w]
                rfl
              refine pure_ (i := 5) (N := some 57) (v := ?_) (a' := ?_) #[true, false, true, true, true, true, false, false, false, false, false, false] rfl rfl (any_of HT_.out (by kernel_rfl)) (fun _ _ _ h => h) (Or.inl ⟨by rfl, ?_⟩) ?_ ?_
              rotate_left
              · intro w'
                go_simp
                with_reducible rfl
              rotate_left
              · simp only [Act.put, List.setIfInBounds_toArray, List.set_cons_zero, List.set_cons_succ, i64_w, i32_w]
                rfl
              refine pure_ (i := 6) (N := some 58) (v := ?_) (a' := ?_) #[true, false, true, true, true, true, true, false, false, false, false, false] rfl rfl (any_of HT_.out (by kernel_rfl)) (fun _ _ _ h => h) (Or.inl ⟨by rfl, ?_⟩) ?_ ?_
              rotate_left
              · intro w'
                go_simp
                with_reducible rfl
              rotate_left
              · simp only [Act.put, List.setIfInBounds_toArray, List.set_cons_zero, List.set_cons_succ, i64_w, i32_w]
                rfl
              refine pure_ (i := 7) (N := some 59) (v := ?_) (a' := ?_) #[true, false, true, true, true, true, true, true, false, false, false, false] rfl rfl (any_of HT_.out (by kernel_rfl)) (fun _ _ _ h => h) (Or.inl ⟨by rfl, ?_⟩) ?_ ?_
              rotate_left
              · intro w'
                go_simp
                with_reducible rfl
              rotate_left
              · simp only [Act.put, List.setIfInBounds_toArray, List.set_cons_zero, List.set_cons_succ, i64_w, i32_w]
                rfl
              refine take_ (i := 8) (N := some 60) (v := ?_) (a' := ?_) #[true, false, true, true, true, true, true, true, true, false, false, false] rfl rfl (take_ofW HT_.out HW_.out (by kernel_rfl)) (fun _ _ _ h => h) (Or.inl ⟨by rfl, ?_⟩) hHeld ?_ ?_
              rotate_left
              · rintro w' ⟨s0, s1⟩
                go_simp
                with_reducible rfl
              rotate_left
              · simp only [Act.put, List.setIfInBounds_toArray, List.set_cons_zero, List.set_cons_succ, i64_w, i32_w]
                rfl
              refine join_ (σ := Value × Value) 2 #[true, true, true, true, true, true, true, true, true, true, false, false] (fun s_ => [(53, s_.1), (61, s_.2)]) (fun s_ w' => (w'.cell? (ad325.add (((ji10)).toNat * 2)) = some (.string ((rd_T38 y319 (ji10)).f0)) ∧ w'.cell? ⟨(ad325.add (((ji10)).toNat * 2)).block, (ad325.add (((ji10)).toNat * 2)).off + 1, none⟩ = some (.slice A325_1 ((rd_T38 y319 (ji10)).f1).length c325_1)) ∧ (Kd.V k41 41 w' w.heap.size (fun k_ => some k_ ≠ (.slice Ao37 t294.length co37 : Value).ownBlock ∧ some k_ ≠ (.slice (some ad325) y319.length co39 : Value).ownBlock ∧ some k_ ≠ (s_.1 : Value).ownBlock ∧ some k_ ≠ (s_.2 : Value).ownBlock) (.slice A325_1 ((rd_T38 y319 (ji10)).f1).length c325_1) ((rd_T38 y319 (ji10)).f1)) ∧ (Kd.N k38 38 w' w.heap.size (fun k_ => some k_ ≠ (.slice (some ad325) y319.length co39 : Value).ownBlock ∧ some k_ ≠ (s_.1 : Value).ownBlock ∧ some k_ ≠ (s_.2 : Value).ownBlock) (.slice Ao37 t294.length co37) t294) ∧ (Kd.N k38 38 w' w.heap.size (fun k_ => some k_ ≠ (.slice Ao37 t294.length co37 : Value).ownBlock ∧ some k_ ≠ (s_.1 : Value).ownBlock ∧ some k_ ≠ (s_.2 : Value).ownBlock) (.slice (some ad325) y319.length co39) y319) ∧ (Kd.N k38 38 w' w.heap.size (fun k_ => some k_ ≠ (.slice Ao37 t294.length co37 : Value).ownBlock ∧ some k_ ≠ (.slice (some ad325) y319.length co39 : Value).ownBlock ∧ some k_ ≠ (s_.2 : Value).ownBlock) s_.1 t322) ∧ (Kd.N k38 38 w' w.heap.size (fun k_ => some k_ ≠ (.slice Ao37 t294.length co37 : Value).ownBlock ∧ some k_ ≠ (.slice (some ad325) y319.length co39 : Value).ownBlock ∧ some k_ ≠ (s_.1 : Value).ownBlock) s_.2 y326) ∧ (Below w.heap.size w w')) ?_ ?_
              rotate_left
              · intro hCont
                refine two_ (i := 1) (j := 9) (Ni := some 53) (Nj := some 61) #[true, true, true, true, true, true, true, true, true, false, false, false] #[true, false, true, true, true, true, true, true, true, true, false, false] rfl rfl rfl rfl (two_of HT_.out (by kernel_rfl)) (by decide) (by decide) (fun K hK => ?_) (fun K hK => ?_)
                · skip
                  refine goes_ Try.func12 (by kernel_rfl) rfl #[.slice Ao37 t294.length co37] (by rfl) rfl rfl (by (try simp only [List.map_toArray, List.map_cons, List.map_nil]); first | done | rfl | (simp only [List.length_drop, List.length_take]; rfl)) ?_
                  with_reducible refine (stolelaw0_CopyPipe.calls k _ _ t294 t322 _ ?side1 ?side2 A9.out).mono ?_
                  (case side1 => repeat (first | exact (Kd.N_reads' HO297.out).2.2 | (with_reducible refine Kd.C_alloc ?_ _) | (with_reducible refine Kd.C_drewN ?_ _) | (with_reducible refine Kd.C_drew ?_)))
                  (case side2 => exact (Kd.N_reads' HO297.out).2.1)
                  rintro e w40 ⟨v323, rfl, ho0, hb⟩
                  have HS0_ := (hb.cell (World.block_lt_of_cell? _ _ (hHeld.1))).trans (hHeld.1)
                  have HS1_ := (hb.cell (World.block_lt_of_cell? _ _ (hHeld.2))).trans (hHeld.2)
                  refine ⟨_, rfl, ?_⟩
                  have n0_ := Aside0.mk (Kd.N_elder' (by (with_reducible repeat (first | apply Kd.N_alloc | apply Kd.N_drewN | apply Kd.N_drew)); exact HO297.out) (Kd.R_base ho0) hb)
                  have n1_ := Aside0.mk (Kd.N_elder' (by (with_reducible repeat (first | apply Kd.N_alloc | apply Kd.N_drewN | apply Kd.N_drew)); exact HO321.out) (Kd.R_base ho0) hb)
                  have n2_ := Aside0.mk (Kd.V_elder' (by (with_reducible repeat (first | apply Kd.V_alloc | apply Kd.V_drewN | apply Kd.V_drew)); exact HL325_1.out) (Kd.R_base ho0) hb)
                  have n3_ := Aside0.mk (Kd.N_lower (Kd.N_mono (ok' := fun k_ => some k_ ≠ (.slice Ao37 t294.length co37 : Value).ownBlock ∧ some k_ ≠ (.slice (some ad325) y319.length co39 : Value).ownBlock) (Kd.R_N (Kd.R_bound ho0)) (fun k_ hk_ => ⟨(Kd.fresh' (Kd.N_lt (by (with_reducible repeat (first | apply Kd.N_alloc | apply Kd.N_drewN | apply Kd.N_drew)); exact HO297.out)) k_ hk_.2.1), (Kd.fresh' (Kd.N_lt (by (with_reducible repeat (first | apply Kd.N_alloc | apply Kd.N_drewN | apply Kd.N_drew)); exact HO321.out)) k_ hk_.2.1)⟩)) (below_size (by repeat (first | (with_reducible first | exact HB.out | apply below_alloc | apply pw_below_drewN | apply below_drew1) | exact HB.out))))
                  have n4_ := Aside0.mk (Kd.C_below (by repeat (first | (with_reducible exact HR325_1.out) | (with_reducible refine Kd.C_alloc ?_ _) | (with_reducible refine Kd.C_drewN ?_ _) | (with_reducible refine Kd.C_drew ?_) | exact HR325_1.out)) hb)
                  have n5_ := Aside0.mk (below_step (by repeat (first | (with_reducible first | exact HB.out | apply below_alloc | apply pw_below_drewN | apply below_drew1) | exact HB.out)) hb)
                  clear HO297
                  clear HO321
                  clear HL325_1
                  clear HR325_1
                  clear HB
                  have HO297 := n0_
                  have HO321 := n1_
                  have HL325_1 := n2_
                  have HO324 := n3_
                  have HR325_1 := n4_
                  have HB := n5_
                  clear n0_ n1_ n2_ n3_ n4_ n5_
                  (try clear hb)
                  (try clear hb2)
                  (try clear hk)
                  (try clear hi)
                  (try clear ho0)
                  refine hK.out _ _ ⟨HS0_, HS1_⟩ (fun hHeld => ?_)
                  clear hK K
                  refine norm_ (a' := ?_) ?_ ?_
                  rotate_left
                  · show Act.put _ (some 53) _ = _
                    simp only [Act.put, List.setIfInBounds_toArray, List.set_cons_zero, List.set_cons_succ, i64_w, i32_w]
                    rfl
                  refine one_ (i := 9) (N := some 61) #[true, true, true, true, true, true, true, true, true, true, false, false] rfl rfl (one_of HT_.out (by kernel_rfl)) (by decide) (fun K hK => ?_)
                  refine Kd.N_lit_step k38 _ 38 ?hg (N' := 61) ?hd (xs := ([(⟨(rd_T38 y319 (ji10)).f0, (rd_T38 y319 (ji10)).f1⟩ : S38)] : List (S38))) (inner := [.string ((rd_T38 y319 (ji10)).f0), .slice A325_1 ((rd_T38 y319 (ji10)).f1).length c325_1]) (ok := (fun k_ => some k_ ≠ (.slice Ao37 t294.length co37 : Value).ownBlock ∧ some k_ ≠ (.slice (some ad325) y319.length co39 : Value).ownBlock ∧ some k_ ≠ (v323 : Value).ownBlock)) (okp := (fun k_ => some k_ ≠ (.slice Ao37 t294.length co37 : Value).ownBlock ∧ some k_ ≠ (.slice (some ad325) y319.length co39 : Value).ownBlock ∧ some k_ ≠ (v323 : Value).ownBlock)) ?hr ?hp (fun _ hk => hk) ((show ∀ k_, w40.heap.size ≤ k_ → (fun k_ => some k_ ≠ (.slice Ao37 t294.length co37 : Value).ownBlock ∧ some k_ ≠ (.slice (some ad325) y319.length co39 : Value).ownBlock ∧ some k_ ≠ (v323 : Value).ownBlock) k_ from fun k_ hk => ⟨Kd.fresh' (Kd.N_lt (by (with_reducible repeat (first | apply Kd.N_alloc | apply Kd.N_drewN | apply Kd.N_drew)); exact HO297.out)) k_ hk, Kd.fresh' (Kd.N_lt (by (with_reducible repeat (first | apply Kd.N_alloc | apply Kd.N_drewN | apply Kd.N_drew)); exact HO321.out)) k_ hk, Kd.fresh' (Kd.N_lt (by (with_reducible repeat (first | apply Kd.N_alloc | apply Kd.N_drewN | apply Kd.N_drew)); exact HO324.out)) k_ hk⟩) _ (Nat.le_refl _)) (Below.refl _ _) (Nat.le_refl _) (by simp) ?_; (case hd => rfl); (case hg => rfl); (case hr => first | (go_simp; done) | (go_simp; rfl)); (case hp => exact (Reps.c2 (show Kd.FK k38 _ _ (⟨(rd_T38 y319 (ji10)).f0, (rd_T38 y319 (ji10)).f1⟩ : S38) [.string ((rd_T38 y319 (ji10)).f0), .slice A325_1 ((rd_T38 y319 (ji10)).f1).length c325_1] from (k38_mkF _ _ (⟨(rd_T38 y319 (ji10)).f0, (rd_T38 y319 (ji10)).f1⟩ : S38) (Kd.V_reads' (Kd.V_mono (ok' := (fun k_ => some k_ ≠ (.slice Ao37 t294.length co37 : Value).ownBlock ∧ some k_ ≠ (.slice (some ad325) y319.length co39 : Value).ownBlock ∧ some k_ ≠ (v323 : Value).ownBlock)) (HL325_1.out) (fun k_ hk => ⟨hk.1.1, ⟨hk.1.2, hk.2⟩⟩))).2.1 (Kd.V_F (Kd.V_mono (ok' := (fun k_ => some k_ ≠ (.slice Ao37 t294.length co37 : Value).ownBlock ∧ some k_ ≠ (.slice (some ad325) y319.length co39 : Value).ownBlock ∧ some k_ ≠ (v323 : Value).ownBlock)) (HL325_1.out) (fun k_ hk => ⟨hk.1.1, ⟨hk.1.2, hk.2⟩⟩))))) (Reps.none _ _)))
                  intro v327 w41 ho42 hb hg_ hnew_
                  have HS0_ := (hb.cell (World.block_lt_of_cell? _ _ (hHeld.1))).trans (hHeld.1)
                  have HS1_ := (hb.cell (World.block_lt_of_cell? _ _ (hHeld.2))).trans (hHeld.2)
                  clear hg_ hnew_
                  (first | rw [← Ny326.out] at ho42 | (simp only [Int.reduceToNat] at ho42; rw [← Ny326.out] at ho42))
                  have n0_ := Aside0.mk (Kd.N_elder' (by (with_reducible repeat (first | apply Kd.N_alloc | apply Kd.N_drewN | apply Kd.N_drew)); exact HO297.out) (Kd.N_base ho42) hb)
                  have n1_ := Aside0.mk (Kd.N_elder' (by (with_reducible repeat (first | apply Kd.N_alloc | apply Kd.N_drewN | apply Kd.N_drew)); exact HO321.out) (Kd.N_base ho42) hb)
                  have n2_ := Aside0.mk (Kd.V_elder' (by (with_reducible repeat (first | apply Kd.V_alloc | apply Kd.V_drewN | apply Kd.V_drew)); exact HL325_1.out) (Kd.N_base ho42) hb)
                  have n3_ := Aside0.mk (Kd.N_elder' (by (with_reducible repeat (first | apply Kd.N_alloc | apply Kd.N_drewN | apply Kd.N_drew)); exact HO324.out) (Kd.N_base ho42) hb)
                  have n4_ := Aside0.mk (Kd.N_lower ho42 (below_size (by repeat (first | (with_reducible first | exact HB.out | apply below_alloc | apply pw_below_drewN | apply below_drew1) | exact HB.out))))
                  have n5_ := Aside0.mk (Kd.C_below (by repeat (first | (with_reducible exact HR325_1.out) | (with_reducible refine Kd.C_alloc ?_ _) | (with_reducible refine Kd.C_drewN ?_ _) | (with_reducible refine Kd.C_drew ?_) | exact HR325_1.out)) hb)
                  have n6_ := Aside0.mk (below_step (by repeat (first | (with_reducible first | exact HB.out | apply below_alloc | apply pw_below_drewN | apply below_drew1) | exact HB.out)) hb)
                  clear HO297
                  clear HO321
                  clear HL325_1
                  clear HO324
                  clear HR325_1
                  clear HB
                  have HO297 := n0_
                  have HO321 := n1_
                  have HL325_1 := n2_
                  have HO324 := n3_
                  have HO328 := n4_
                  have HR325_1 := n5_
                  have HB := n6_
                  clear n0_ n1_ n2_ n3_ n4_ n5_ n6_
                  clear hb ho42
                  refine hK.out _ _ ⟨HS0_, HS1_⟩ (fun hHeld => ?_)
                  clear hK K
                  refine norm_ (a' := ?_) ?_ ?_
                  rotate_left
                  · show Act.put _ (some 61) _ = _
                    simp only [Act.put, List.setIfInBounds_toArray, List.set_cons_zero, List.set_cons_succ, i64_w, i32_w]
                    rfl
                  exact norm_ (by simp only [putAll, Act.put, List.setIfInBounds_toArray, List.set_cons_zero, List.set_cons_succ]) (hCont (v323, v327) _ ⟨hHeld, (by (with_reducible repeat (first | apply Kd.V_alloc | apply Kd.V_drewN | apply Kd.V_drew)); exact Kd.V_mono HL325_1.out (fun _ hk => ⟨hk.1.1.1, ⟨hk.1.1.2, ⟨hk.1.2, hk.2⟩⟩⟩)), (by (with_reducible repeat (first | apply Kd.N_alloc | apply Kd.N_drewN | apply Kd.N_drew)); exact Kd.N_mono HO297.out (fun _ hk => ⟨hk.1.1.2, ⟨hk.1.2, hk.2⟩⟩)), (by (with_reducible repeat (first | apply Kd.N_alloc | apply Kd.N_drewN | apply Kd.N_drew)); exact Kd.N_mono HO321.out (fun _ hk => ⟨hk.1.1, ⟨hk.1.2, hk.2⟩⟩)), (by (with_reducible repeat (first | apply Kd.N_alloc | apply Kd.N_drewN | apply Kd.N_drew)); exact Kd.N_mono HO324.out (fun _ hk => ⟨hk.1.1, ⟨hk.1.2, hk.2⟩⟩)), (by (with_reducible repeat (first | apply Kd.N_alloc | apply Kd.N_drewN | apply Kd.N_drew)); exact HO328.out), (by repeat (first | (with_reducible first | exact HB.out | apply below_alloc | apply pw_below_drewN | apply below_drew1) | exact HB.out))⟩)
                · skip
                  refine Kd.N_lit_step k38 _ 38 ?hg (N' := 61) ?hd (xs := ([(⟨(rd_T38 y319 (ji10)).f0, (rd_T38 y319 (ji10)).f1⟩ : S38)] : List (S38))) (inner := [.string ((rd_T38 y319 (ji10)).f0), .slice A325_1 ((rd_T38 y319 (ji10)).f1).length c325_1]) (ok := (fun k_ => some k_ ≠ (.slice Ao37 t294.length co37 : Value).ownBlock ∧ some k_ ≠ (.slice (some ad325) y319.length co39 : Value).ownBlock)) (okp := (fun k_ => some k_ ≠ (.slice Ao37 t294.length co37 : Value).ownBlock ∧ some k_ ≠ (.slice (some ad325) y319.length co39 : Value).ownBlock)) ?hr ?hp (fun _ hk => hk) ((show ∀ k_, w38.heap.size ≤ k_ → (fun k_ => some k_ ≠ (.slice Ao37 t294.length co37 : Value).ownBlock ∧ some k_ ≠ (.slice (some ad325) y319.length co39 : Value).ownBlock) k_ from fun k_ hk => ⟨Kd.fresh' (Kd.N_lt (by (with_reducible repeat (first | apply Kd.N_alloc | apply Kd.N_drewN | apply Kd.N_drew)); exact HO297.out)) k_ hk, Kd.fresh' (Kd.N_lt (by (with_reducible repeat (first | apply Kd.N_alloc | apply Kd.N_drewN | apply Kd.N_drew)); exact HO321.out)) k_ hk⟩) _ (Nat.le_refl _)) (Below.refl _ _) (Nat.le_refl _) (by simp) ?_; (case hd => rfl); (case hg => rfl); (case hr => first | (go_simp; done) | (go_simp; rfl)); (case hp => exact (Reps.c2 (show Kd.FK k38 _ _ (⟨(rd_T38 y319 (ji10)).f0, (rd_T38 y319 (ji10)).f1⟩ : S38) [.string ((rd_T38 y319 (ji10)).f0), .slice A325_1 ((rd_T38 y319 (ji10)).f1).length c325_1] from (k38_mkF _ _ (⟨(rd_T38 y319 (ji10)).f0, (rd_T38 y319 (ji10)).f1⟩ : S38) (Kd.V_reads' (Kd.V_mono (ok' := (fun k_ => some k_ ≠ (.slice Ao37 t294.length co37 : Value).ownBlock ∧ some k_ ≠ (.slice (some ad325) y319.length co39 : Value).ownBlock)) (HL325_1.out) (fun k_ hk => ⟨hk.1, hk.2⟩))).2.1 (Kd.V_F (Kd.V_mono (ok' := (fun k_ => some k_ ≠ (.slice Ao37 t294.length co37 : Value).ownBlock ∧ some k_ ≠ (.slice (some ad325) y319.length co39 : Value).ownBlock)) (HL325_1.out) (fun k_ hk => ⟨hk.1, hk.2⟩))))) (Reps.none _ _)))
                  intro v327 w40 ho41 hb hg_ hnew_
                  have HS0_ := (hb.cell (World.block_lt_of_cell? _ _ (hHeld.1))).trans (hHeld.1)
                  have HS1_ := (hb.cell (World.block_lt_of_cell? _ _ (hHeld.2))).trans (hHeld.2)
                  clear hg_ hnew_
                  (first | rw [← Ny326.out] at ho41 | (simp only [Int.reduceToNat] at ho41; rw [← Ny326.out] at ho41))
                  have n0_ := Aside0.mk (Kd.N_elder' (by (with_reducible repeat (first | apply Kd.N_alloc | apply Kd.N_drewN | apply Kd.N_drew)); exact HO297.out) (Kd.N_base ho41) hb)
                  have n1_ := Aside0.mk (Kd.N_elder' (by (with_reducible repeat (first | apply Kd.N_alloc | apply Kd.N_drewN | apply Kd.N_drew)); exact HO321.out) (Kd.N_base ho41) hb)
                  have n2_ := Aside0.mk (Kd.V_elder' (by (with_reducible repeat (first | apply Kd.V_alloc | apply Kd.V_drewN | apply Kd.V_drew)); exact HL325_1.out) (Kd.N_base ho41) hb)
                  have n3_ := Aside0.mk (Kd.N_lower ho41 (below_size (by repeat (first | (with_reducible first | exact HB.out | apply below_alloc | apply pw_below_drewN | apply below_drew1) | exact HB.out))))
                  have n4_ := Aside0.mk (Kd.C_below (by repeat (first | (with_reducible exact HR325_1.out) | (with_reducible refine Kd.C_alloc ?_ _) | (with_reducible refine Kd.C_drewN ?_ _) | (with_reducible refine Kd.C_drew ?_) | exact HR325_1.out)) hb)
                  have n5_ := Aside0.mk (below_step (by repeat (first | (with_reducible first | exact HB.out | apply below_alloc | apply pw_below_drewN | apply below_drew1) | exact HB.out)) hb)
                  clear HO297
                  clear HO321
                  clear HL325_1
                  clear HR325_1
                  clear HB
                  have HO297 := n0_
                  have HO321 := n1_
                  have HL325_1 := n2_
                  have HO328 := n3_
                  have HR325_1 := n4_
                  have HB := n5_
                  clear n0_ n1_ n2_ n3_ n4_ n5_
                  clear hb ho41
                  refine hK.out _ _ ⟨HS0_, HS1_⟩ (fun hHeld => ?_)
                  clear hK K
                  refine norm_ (a' := ?_) ?_ ?_
                  rotate_left
                  · show Act.put _ (some 61) _ = _
                    simp only [Act.put, List.setIfInBounds_toArray, List.set_cons_zero, List.set_cons_succ, i64_w, i32_w]
                    rfl
                  refine one_ (i := 1) (N := some 53) #[true, true, true, true, true, true, true, true, true, true, false, false] rfl rfl (one_of HT_.out (by kernel_rfl)) (by decide) (fun K hK => ?_)
                  refine goes_ Try.func12 (by kernel_rfl) rfl #[.slice Ao37 t294.length co37] (by rfl) rfl rfl (by (try simp only [List.map_toArray, List.map_cons, List.map_nil]); first | done | rfl | (simp only [List.length_drop, List.length_take]; rfl)) ?_
                  with_reducible refine (stolelaw0_CopyPipe.calls k _ _ t294 t322 _ ?side1 ?side2 A9.out).mono ?_
                  (case side1 => repeat (first | exact (Kd.N_reads' HO297.out).2.2 | (with_reducible refine Kd.C_alloc ?_ _) | (with_reducible refine Kd.C_drewN ?_ _) | (with_reducible refine Kd.C_drew ?_)))
                  (case side2 => exact (Kd.N_reads' HO297.out).2.1)
                  rintro e w42 ⟨v323, rfl, ho0, hb⟩
                  have HS0_ := (hb.cell (World.block_lt_of_cell? _ _ (hHeld.1))).trans (hHeld.1)
                  have HS1_ := (hb.cell (World.block_lt_of_cell? _ _ (hHeld.2))).trans (hHeld.2)
                  refine ⟨_, rfl, ?_⟩
                  have n0_ := Aside0.mk (Kd.N_elder' (by (with_reducible repeat (first | apply Kd.N_alloc | apply Kd.N_drewN | apply Kd.N_drew)); exact HO297.out) (Kd.R_base ho0) hb)
                  have n1_ := Aside0.mk (Kd.N_elder' (by (with_reducible repeat (first | apply Kd.N_alloc | apply Kd.N_drewN | apply Kd.N_drew)); exact HO321.out) (Kd.R_base ho0) hb)
                  have n2_ := Aside0.mk (Kd.V_elder' (by (with_reducible repeat (first | apply Kd.V_alloc | apply Kd.V_drewN | apply Kd.V_drew)); exact HL325_1.out) (Kd.R_base ho0) hb)
                  have n3_ := Aside0.mk (Kd.N_elder' (by (with_reducible repeat (first | apply Kd.N_alloc | apply Kd.N_drewN | apply Kd.N_drew)); exact HO328.out) (Kd.R_base ho0) hb)
                  have n4_ := Aside0.mk (Kd.N_lower (Kd.N_mono (ok' := fun k_ => some k_ ≠ (.slice Ao37 t294.length co37 : Value).ownBlock ∧ some k_ ≠ (.slice (some ad325) y319.length co39 : Value).ownBlock ∧ some k_ ≠ (v327 : Value).ownBlock) (Kd.R_N (Kd.R_bound ho0)) (fun k_ hk_ => ⟨(Kd.fresh' (Kd.N_lt (by (with_reducible repeat (first | apply Kd.N_alloc | apply Kd.N_drewN | apply Kd.N_drew)); exact HO297.out)) k_ hk_.2.1), (Kd.fresh' (Kd.N_lt (by (with_reducible repeat (first | apply Kd.N_alloc | apply Kd.N_drewN | apply Kd.N_drew)); exact HO321.out)) k_ hk_.2.1), (Kd.fresh' (Kd.N_lt (by (with_reducible repeat (first | apply Kd.N_alloc | apply Kd.N_drewN | apply Kd.N_drew)); exact HO328.out)) k_ hk_.2.1)⟩)) (below_size (by repeat (first | (with_reducible first | exact HB.out | apply below_alloc | apply pw_below_drewN | apply below_drew1) | exact HB.out))))
                  have n5_ := Aside0.mk (Kd.C_below (by repeat (first | (with_reducible exact HR325_1.out) | (with_reducible refine Kd.C_alloc ?_ _) | (with_reducible refine Kd.C_drewN ?_ _) | (with_reducible refine Kd.C_drew ?_) | exact HR325_1.out)) hb)
                  have n6_ := Aside0.mk (below_step (by repeat (first | (with_reducible first | exact HB.out | apply below_alloc | apply pw_below_drewN | apply below_drew1) | exact HB.out)) hb)
                  clear HO297
                  clear HO321
                  clear HL325_1
                  clear HO328
                  clear HR325_1
                  clear HB
                  have HO297 := n0_
                  have HO321 := n1_
                  have HL325_1 := n2_
                  have HO328 := n3_
                  have HO324 := n4_
                  have HR325_1 := n5_
                  have HB := n6_
                  clear n0_ n1_ n2_ n3_ n4_ n5_ n6_
                  (try clear hb)
                  (try clear hb2)
                  (try clear hk)
                  (try clear hi)
                  (try clear ho0)
                  refine hK.out _ _ ⟨HS0_, HS1_⟩ (fun hHeld => ?_)
                  clear hK K
                  refine norm_ (a' := ?_) ?_ ?_
                  rotate_left
                  · show Act.put _ (some 53) _ = _
                    simp only [Act.put, List.setIfInBounds_toArray, List.set_cons_zero, List.set_cons_succ, i64_w, i32_w]
                    rfl
                  exact norm_ (by simp only [putAll, Act.put, List.setIfInBounds_toArray, List.set_cons_zero, List.set_cons_succ]) (hCont (v323, v327) _ ⟨hHeld, (by (with_reducible repeat (first | apply Kd.V_alloc | apply Kd.V_drewN | apply Kd.V_drew)); exact Kd.V_mono HL325_1.out (fun _ hk => ⟨hk.1.1.1, ⟨hk.1.1.2, ⟨hk.2, hk.1.2⟩⟩⟩)), (by (with_reducible repeat (first | apply Kd.N_alloc | apply Kd.N_drewN | apply Kd.N_drew)); exact Kd.N_mono HO297.out (fun _ hk => ⟨hk.1.1.2, ⟨hk.2, hk.1.2⟩⟩)), (by (with_reducible repeat (first | apply Kd.N_alloc | apply Kd.N_drewN | apply Kd.N_drew)); exact Kd.N_mono HO321.out (fun _ hk => ⟨hk.1.1, ⟨hk.2, hk.1.2⟩⟩)), (by (with_reducible repeat (first | apply Kd.N_alloc | apply Kd.N_drewN | apply Kd.N_drew)); exact HO324.out), (by (with_reducible repeat (first | apply Kd.N_alloc | apply Kd.N_drewN | apply Kd.N_drew)); exact Kd.N_mono HO328.out (fun _ hk => ⟨hk.1.1, ⟨hk.1.2, hk.2⟩⟩)), (by repeat (first | (with_reducible first | exact HB.out | apply below_alloc | apply pw_below_drewN | apply below_drew1) | exact HB.out))⟩)
              rintro ⟨v323, v327⟩ w43 ⟨hS_, h0_, h1_, h2_, h3_, h4_, h5_⟩
              have n0_ : Aside0 (Kd.V k41 41 w43 w.heap.size (fun k_ => some k_ ≠ (.slice Ao37 t294.length co37 : Value).ownBlock ∧ some k_ ≠ (.slice (some ad325) y319.length co39 : Value).ownBlock ∧ some k_ ≠ (v323 : Value).ownBlock ∧ some k_ ≠ (v327 : Value).ownBlock) (.slice A325_1 ((rd_T38 y319 (ji10)).f1).length c325_1) ((rd_T38 y319 (ji10)).f1)) := ⟨h0_⟩
              have n1_ : Aside0 (Kd.N k38 38 w43 w.heap.size (fun k_ => some k_ ≠ (.slice (some ad325) y319.length co39 : Value).ownBlock ∧ some k_ ≠ (v323 : Value).ownBlock ∧ some k_ ≠ (v327 : Value).ownBlock) (.slice Ao37 t294.length co37) t294) := ⟨h1_⟩
              have n2_ : Aside0 (Kd.N k38 38 w43 w.heap.size (fun k_ => some k_ ≠ (.slice Ao37 t294.length co37 : Value).ownBlock ∧ some k_ ≠ (v323 : Value).ownBlock ∧ some k_ ≠ (v327 : Value).ownBlock) (.slice (some ad325) y319.length co39) y319) := ⟨h2_⟩
              have n3_ : Aside0 (Kd.N k38 38 w43 w.heap.size (fun k_ => some k_ ≠ (.slice Ao37 t294.length co37 : Value).ownBlock ∧ some k_ ≠ (.slice (some ad325) y319.length co39 : Value).ownBlock ∧ some k_ ≠ (v327 : Value).ownBlock) v323 t322) := ⟨h3_⟩
              have n4_ : Aside0 (Kd.N k38 38 w43 w.heap.size (fun k_ => some k_ ≠ (.slice Ao37 t294.length co37 : Value).ownBlock ∧ some k_ ≠ (.slice (some ad325) y319.length co39 : Value).ownBlock ∧ some k_ ≠ (v323 : Value).ownBlock) v327 y326) := ⟨h4_⟩
              have n5_ : Aside0 (Below w.heap.size w w43) := ⟨h5_⟩
              clear HO297
              clear HO321
              clear HB
              clear h0_ h1_ h2_ h3_ h4_ h5_
              have HL325_1 := n0_
              have HO297 := n1_
              have HO321 := n2_
              have HO324 := n3_
              have HO328 := n4_
              have HB := n5_
              clear n0_ n1_ n2_ n3_ n4_ n5_
              have hHeld : w43.cell? (ad325.add (((ji10)).toNat * 2)) = some (.string ((rd_T38 y319 (ji10)).f0)) ∧ w43.cell? ⟨(ad325.add (((ji10)).toNat * 2)).block, (ad325.add (((ji10)).toNat * 2)).off + 1, none⟩ = some (.slice A325_1 ((rd_T38 y319 (ji10)).f1).length c325_1) := hS_
              obtain ⟨Ao45, co45, eo45⟩ := Kd.N_slice HO328.out
              (first | subst eo45 | (injection eo45 with f1_ f2_ f3_; have f4_ := f1_.symm; have f5_ := f3_.symm; clear f1_ f2_ f3_; subst f4_; subst f5_))
              refine norm_ (a' := ?_) ?_ ?_
              rotate_left
              · simp only [putAll, Act.put, List.setIfInBounds_toArray, List.set_cons_zero, List.set_cons_succ]
                rfl
              refine last_ (i := 10) (N := some 62) #[true, true, true, true, true, true, true, true, true, true, true, false] rfl rfl (one_of HT_.out (by kernel_rfl)) (by decide) (fun K hK => ?_)
              refine Kd.N_append_rows_step k38 (w0 := w) w.heap.size (by rfl) (.tmp 53) (.tmp 61) 23 38 (.agg #[(.string ⟨#[]⟩), (.slice none 0 0)]) 40 rfl Try.underlying23 info38 rfl (by decide) (by omega) v323 t322 y326 _ _ _ (fun k_ => some k_ ≠ (.slice Ao37 t294.length co37 : Value).ownBlock ∧ some k_ ≠ (.slice (some ad325) y319.length co39 : Value).ownBlock) (fun k_ => ((fun k_ => some k_ ≠ (.slice Ao37 t294.length co37 : Value).ownBlock ∧ some k_ ≠ (.slice (some ad325) y319.length co39 : Value).ownBlock)) k_ ∧ some k_ ≠ (v323 : Value).ownBlock) rfl rfl ?aO ?aR (fun _ hk => hk) ?aF ?aB ?aS ?aL ?_
              (case aR => exact (by skip; exact Kd.N_F (Kd.N_mono (ok' := (fun k_ => ((fun k_ => some k_ ≠ (.slice Ao37 t294.length co37 : Value).ownBlock ∧ some k_ ≠ (.slice (some ad325) y319.length co39 : Value).ownBlock)) k_ ∧ some k_ ≠ (v323 : Value).ownBlock)) (HO328.out) (fun k_ hk => ⟨⟨hk.1, hk.2.1⟩, hk.2.2⟩))))
              (case aB => exact (by repeat (first | (with_reducible first | exact HB.out | apply below_alloc | apply pw_below_drewN | apply below_drew1) | exact HB.out)))
              (case aF => exact (fun k_ hk => ⟨Kd.fresh' (Kd.N_lt (by (with_reducible repeat (first | apply Kd.N_alloc | apply Kd.N_drewN | apply Kd.N_drew)); exact HO297.out)) k_ hk, Kd.fresh' (Kd.N_lt (by (with_reducible repeat (first | apply Kd.N_alloc | apply Kd.N_drewN | apply Kd.N_drew)); exact HO321.out)) k_ hk⟩))
              (case aO => exact (by (with_reducible repeat (first | apply Kd.N_alloc | apply Kd.N_drewN | apply Kd.N_drew)); exact Kd.N_mono HO324.out (fun _ hk => ⟨hk.1, hk.2.1⟩)))
              (case aS => exact (below_size (by repeat (first | (with_reducible first | exact HB.out | apply below_alloc | apply pw_below_drewN | apply below_drew1) | exact HB.out))))
              (case aL => have := LMc13.out; omega)
              intro v330 w44 ho hb hg hat
              rw [← Ny329.out] at ho
              have n0_ := Aside0.mk (Kd.N_afterv (ok := (fun k_ => some k_ ≠ (.slice (some ad325) y319.length co39 : Value).ownBlock ∧ some k_ ≠ (.slice Ao45 y326.length co45 : Value).ownBlock)) (by (with_reducible repeat (first | apply Kd.N_alloc | apply Kd.N_drewN | apply Kd.N_drew)); exact Kd.N_mono HO297.out (fun _ hk => ⟨⟨hk.1, hk.2.2⟩, hk.2.1⟩)) hg hat)
              have n1_ := Aside0.mk (Kd.N_afterv (ok := (fun k_ => some k_ ≠ (.slice Ao37 t294.length co37 : Value).ownBlock ∧ some k_ ≠ (.slice Ao45 y326.length co45 : Value).ownBlock)) (by (with_reducible repeat (first | apply Kd.N_alloc | apply Kd.N_drewN | apply Kd.N_drew)); exact Kd.N_mono HO321.out (fun _ hk => ⟨⟨hk.1, hk.2.2⟩, hk.2.1⟩)) hg hat)
              have n2_ := Aside0.mk (Kd.V_afterv (ok := (fun k_ => some k_ ≠ (.slice Ao37 t294.length co37 : Value).ownBlock ∧ some k_ ≠ (.slice (some ad325) y319.length co39 : Value).ownBlock ∧ some k_ ≠ (.slice Ao45 y326.length co45 : Value).ownBlock)) (by (with_reducible repeat (first | apply Kd.V_alloc | apply Kd.V_drewN | apply Kd.V_drew)); exact Kd.V_mono HL325_1.out (fun _ hk => ⟨⟨hk.1, ⟨hk.2.1, hk.2.2.2⟩⟩, hk.2.2.1⟩)) hg hat)
              have n3_ := Aside0.mk (Kd.N_afterv (ok := (fun k_ => some k_ ≠ (.slice Ao37 t294.length co37 : Value).ownBlock ∧ some k_ ≠ (.slice (some ad325) y319.length co39 : Value).ownBlock)) (by (with_reducible repeat (first | apply Kd.N_alloc | apply Kd.N_drewN | apply Kd.N_drew)); exact Kd.N_mono HO328.out (fun _ hk => ⟨⟨hk.1, hk.2.1⟩, hk.2.2⟩)) hg hat)
              have n4_ := Aside0.mk (hb)
              have n5_ := Aside0.mk (ho)
              clear HO297
              clear HO321
              clear HL325_1
              clear HO328
              clear HB
              clear HO324
              have HO297 := n0_
              have HO321 := n1_
              have HL325_1 := n2_
              have HO328 := n3_
              have HB := n4_
              have HO331 := n5_
              clear n0_ n1_ n2_ n3_ n4_ n5_
              clear ho hb hg hat
              refine hK.out _ _ ?_
              clear hK K
              refine norm_ (a' := ?_) ?_ ?_
              rotate_left
              · show Act.put _ (some 62) _ = _
                simp only [Act.put, List.setIfInBounds_toArray, List.set_cons_zero, List.set_cons_succ, i64_w, i32_w]
                rfl
              refine pure_ (i := 11) (N := some 8) (v := ?_) (a' := ?_) #[true, true, true, true, true, true, true, true, true, true, true, true] rfl rfl (any_of HT_.out (by kernel_rfl)) (fun _ _ _ h => h) (Or.inl ⟨by rfl, ?_⟩) ?_ ?_
              rotate_left
              · intro w'
                go_simp
                with_reducible rfl
              rotate_left
              · simp only [Act.put, List.setIfInBounds_toArray, List.set_cons_zero, List.set_cons_succ, i64_w, i32_w]
                rfl
              refine done_ (done_of HT_.out (by kernel_rfl)) ?_
              go_upto_region 8 with (fail)
              go_cut [4] (fun v4 wc => ∃ (kq : Nat) (x4_13 : Bool), v4 = .bool x4_13 ∧ Aside0 (stolelaw15_PipeMays.j1 kq x4_13 = some r) ∧ Aside0 (kq ≤ k) ∧ Aside0 (Below w.heap.size w wc))
              case first =>
                have H := HC14.out
                clear HC14
                replace H := Option.bind_eq_some_iff.mp H
                obtain ⟨t332, A460, H⟩ := H
                replace H : (if t332 = true then ((pipe_May.f y329).bind fun t333 => (if t333 = true then (stolelaw15_PipeMays.j1 k false) else (stolelaw15_PipeMays.j1 k (decide ((t294.length : Int) ≤ 8))))) else (stolelaw15_PipeMays.j1 k false)) = some r := H
                have A46 := Aside0.mk A460
                clear A460
                by_cases c47 : t332 = true
                · subst c47
                  have H1 : ((pipe_May.f y329).bind fun t333 => (if t333 = true then (stolelaw15_PipeMays.j1 k false) else (stolelaw15_PipeMays.j1 k (decide ((t294.length : Int) ≤ 8))))) = some r := by rw [if_pos rfl] at H; exact H
                  clear H
                  have H := H1
                  clear H1
                  replace H := Option.bind_eq_some_iff.mp H
                  obtain ⟨t333, A480, H⟩ := H
                  replace H : (if t333 = true then (stolelaw15_PipeMays.j1 k false) else (stolelaw15_PipeMays.j1 k (decide ((t294.length : Int) ≤ 8)))) = some r := H
                  have A48 := Aside0.mk A480
                  clear A480
                  by_cases c49 : t333 = true
                  · subst c49
                    have H1 : (stolelaw15_PipeMays.j1 k false) = some r := by rw [if_pos rfl] at H; exact H
                    clear H
                    have H := H1
                    clear H1
                    have H' := Aside0.mk H
                    clear H
                    go_wp2_with (first | ((with_reducible refine gate_callee (f := 13) rfl ?_); refine goesL_ (some 64) rfl rfl Try.func13 (by kernel_rfl) rfl #[.slice Ao37 t294.length co37] rfl (by (try simp only [List.map_toArray, List.map_cons, List.map_nil]); first | done | rfl | (simp only [List.length_drop, List.length_take]; rfl)) ?_; (with_reducible refine (pipe_May.calls _ _ t294 true _ ?side1 ?side2 A46.out).mono ?_); (case side1 => repeat (first | exact (Kd.N_reads' HO297.out).2.2 | (with_reducible refine Kd.C_alloc ?_ _) | (with_reducible refine Kd.C_drewN ?_ _) | (with_reducible refine Kd.C_drew ?_))); (case side2 => exact (Kd.N_reads' HO297.out).2.1); rintro e w50 ⟨rfl, hb⟩; refine ⟨_, rfl, ?_⟩; have n0_ := Aside0.mk (Kd.N_below (by (with_reducible repeat (first | apply Kd.N_alloc | apply Kd.N_drewN | apply Kd.N_drew)); exact HO297.out) hb); have n1_ := Aside0.mk (Kd.N_below (by (with_reducible repeat (first | apply Kd.N_alloc | apply Kd.N_drewN | apply Kd.N_drew)); exact HO321.out) hb); have n2_ := Aside0.mk (Kd.V_below (by (with_reducible repeat (first | apply Kd.V_alloc | apply Kd.V_drewN | apply Kd.V_drew)); exact HL325_1.out) hb); have n3_ := Aside0.mk (Kd.N_below (by (with_reducible repeat (first | apply Kd.N_alloc | apply Kd.N_drewN | apply Kd.N_drew)); exact HO328.out) hb); have n4_ := Aside0.mk (Kd.N_below (by (with_reducible repeat (first | apply Kd.N_alloc | apply Kd.N_drewN | apply Kd.N_drew)); exact HO331.out) hb); have n5_ := Aside0.mk (below_step (by repeat (first | (with_reducible first | exact HB.out | apply below_alloc | apply pw_below_drewN | apply below_drew1) | exact HB.out)) hb); clear HO297; clear HO321; clear HL325_1; clear HO328; clear HO331; clear HB; have HO297 := n0_; have HO321 := n1_; have HL325_1 := n2_; have HO328 := n3_; have HO331 := n4_; have HB := n5_; clear n0_ n1_ n2_ n3_ n4_ n5_; (try clear hb); (try clear hb2); (try clear hk); (try clear hi); obtain ⟨Ao51, co51, eo51⟩ := Kd.N_slice HO331.out; subst eo51) | (go_at_call 13; (with_reducible refine (pipe_May.calls _ _ y329 true _ ?side1 ?side2 A48.out).mono ?_); (case side1 => repeat (first | exact (Kd.N_reads' HO331.out).2.2 | (with_reducible refine Kd.C_alloc ?_ _) | (with_reducible refine Kd.C_drewN ?_ _) | (with_reducible refine Kd.C_drew ?_))); (case side2 => exact (Kd.N_reads' HO331.out).2.1); rintro e w52 ⟨rfl, hb⟩; have n0_ := Aside0.mk (Kd.N_below (by (with_reducible repeat (first | apply Kd.N_alloc | apply Kd.N_drewN | apply Kd.N_drew)); exact HO297.out) hb); have n1_ := Aside0.mk (Kd.N_below (by (with_reducible repeat (first | apply Kd.N_alloc | apply Kd.N_drewN | apply Kd.N_drew)); exact HO321.out) hb); have n2_ := Aside0.mk (Kd.V_below (by (with_reducible repeat (first | apply Kd.V_alloc | apply Kd.V_drewN | apply Kd.V_drew)); exact HL325_1.out) hb); have n3_ := Aside0.mk (Kd.N_below (by (with_reducible repeat (first | apply Kd.N_alloc | apply Kd.N_drewN | apply Kd.N_drew)); exact HO328.out) hb); have n4_ := Aside0.mk (Kd.N_below (by (with_reducible repeat (first | apply Kd.N_alloc | apply Kd.N_drewN | apply Kd.N_drew)); exact HO331.out) hb); have n5_ := Aside0.mk (below_step (by repeat (first | (with_reducible first | exact HB.out | apply below_alloc | apply pw_below_drewN | apply below_drew1) | exact HB.out)) hb); clear HO297; clear HO321; clear HL325_1; clear HO328; clear HO331; clear HB; have HO297 := n0_; have HO321 := n1_; have HL325_1 := n2_; have HO328 := n3_; have HO331 := n4_; have HB := n5_; clear n0_ n1_ n2_ n3_ n4_ n5_; (try clear hb); (try clear hb2); (try clear hk); (try clear hi)))
                    go_meet
                    case rel => exact ⟨_, (false), (by first | rfl | (simp; done) | (simp [*]; done)), H', ⟨by first | omega | exact Nat.le_refl _⟩, ⟨by repeat (first | (with_reducible first | exact HB.out | apply below_alloc | apply pw_below_drewN | apply below_drew1) | exact HB.out)⟩⟩
                  · replace c49 := Bool.eq_false_iff.mpr c49
                    subst c49
                    have H1 : (stolelaw15_PipeMays.j1 k (decide ((t294.length : Int) ≤ 8))) = some r := by rw [if_neg (show ¬ (false = true) by decide)] at H; exact H
                    clear H
                    have H := H1
                    clear H1
                    have H' := Aside0.mk H
                    clear H
                    go_wp2_with (first | ((with_reducible refine gate_callee (f := 13) rfl ?_); refine goesL_ (some 64) rfl rfl Try.func13 (by kernel_rfl) rfl #[.slice Ao37 t294.length co37] rfl (by (try simp only [List.map_toArray, List.map_cons, List.map_nil]); first | done | rfl | (simp only [List.length_drop, List.length_take]; rfl)) ?_; (with_reducible refine (pipe_May.calls _ _ t294 true _ ?side1 ?side2 A46.out).mono ?_); (case side1 => repeat (first | exact (Kd.N_reads' HO297.out).2.2 | (with_reducible refine Kd.C_alloc ?_ _) | (with_reducible refine Kd.C_drewN ?_ _) | (with_reducible refine Kd.C_drew ?_))); (case side2 => exact (Kd.N_reads' HO297.out).2.1); rintro e w53 ⟨rfl, hb⟩; refine ⟨_, rfl, ?_⟩; have n0_ := Aside0.mk (Kd.N_below (by (with_reducible repeat (first | apply Kd.N_alloc | apply Kd.N_drewN | apply Kd.N_drew)); exact HO297.out) hb); have n1_ := Aside0.mk (Kd.N_below (by (with_reducible repeat (first | apply Kd.N_alloc | apply Kd.N_drewN | apply Kd.N_drew)); exact HO321.out) hb); have n2_ := Aside0.mk (Kd.V_below (by (with_reducible repeat (first | apply Kd.V_alloc | apply Kd.V_drewN | apply Kd.V_drew)); exact HL325_1.out) hb); have n3_ := Aside0.mk (Kd.N_below (by (with_reducible repeat (first | apply Kd.N_alloc | apply Kd.N_drewN | apply Kd.N_drew)); exact HO328.out) hb); have n4_ := Aside0.mk (Kd.N_below (by (with_reducible repeat (first | apply Kd.N_alloc | apply Kd.N_drewN | apply Kd.N_drew)); exact HO331.out) hb); have n5_ := Aside0.mk (below_step (by repeat (first | (with_reducible first | exact HB.out | apply below_alloc | apply pw_below_drewN | apply below_drew1) | exact HB.out)) hb); clear HO297; clear HO321; clear HL325_1; clear HO328; clear HO331; clear HB; have HO297 := n0_; have HO321 := n1_; have HL325_1 := n2_; have HO328 := n3_; have HO331 := n4_; have HB := n5_; clear n0_ n1_ n2_ n3_ n4_ n5_; (try clear hb); (try clear hb2); (try clear hk); (try clear hi); obtain ⟨Ao54, co54, eo54⟩ := Kd.N_slice HO331.out; subst eo54) | (go_at_call 13; (with_reducible refine (pipe_May.calls _ _ y329 false _ ?side1 ?side2 A48.out).mono ?_); (case side1 => repeat (first | exact (Kd.N_reads' HO331.out).2.2 | (with_reducible refine Kd.C_alloc ?_ _) | (with_reducible refine Kd.C_drewN ?_ _) | (with_reducible refine Kd.C_drew ?_))); (case side2 => exact (Kd.N_reads' HO331.out).2.1); rintro e w55 ⟨rfl, hb⟩; have n0_ := Aside0.mk (Kd.N_below (by (with_reducible repeat (first | apply Kd.N_alloc | apply Kd.N_drewN | apply Kd.N_drew)); exact HO297.out) hb); have n1_ := Aside0.mk (Kd.N_below (by (with_reducible repeat (first | apply Kd.N_alloc | apply Kd.N_drewN | apply Kd.N_drew)); exact HO321.out) hb); have n2_ := Aside0.mk (Kd.V_below (by (with_reducible repeat (first | apply Kd.V_alloc | apply Kd.V_drewN | apply Kd.V_drew)); exact HL325_1.out) hb); have n3_ := Aside0.mk (Kd.N_below (by (with_reducible repeat (first | apply Kd.N_alloc | apply Kd.N_drewN | apply Kd.N_drew)); exact HO328.out) hb); have n4_ := Aside0.mk (Kd.N_below (by (with_reducible repeat (first | apply Kd.N_alloc | apply Kd.N_drewN | apply Kd.N_drew)); exact HO331.out) hb); have n5_ := Aside0.mk (below_step (by repeat (first | (with_reducible first | exact HB.out | apply below_alloc | apply pw_below_drewN | apply below_drew1) | exact HB.out)) hb); clear HO297; clear HO321; clear HL325_1; clear HO328; clear HO331; clear HB; have HO297 := n0_; have HO321 := n1_; have HL325_1 := n2_; have HO328 := n3_; have HO331 := n4_; have HB := n5_; clear n0_ n1_ n2_ n3_ n4_ n5_; (try clear hb); (try clear hb2); (try clear hk); (try clear hi)))
                    go_meet
                    case rel => exact ⟨_, (decide ((t294.length : Int) ≤ 8)), (by first | rfl | (simp; done) | (simp [*]; done)), H', ⟨by first | omega | exact Nat.le_refl _⟩, ⟨by repeat (first | (with_reducible first | exact HB.out | apply below_alloc | apply pw_below_drewN | apply below_drew1) | exact HB.out)⟩⟩
                · replace c47 := Bool.eq_false_iff.mpr c47
                  subst c47
                  have H1 : (stolelaw15_PipeMays.j1 k false) = some r := by rw [if_neg (show ¬ (false = true) by decide)] at H; exact H
                  clear H
                  have H := H1
                  clear H1
                  have H' := Aside0.mk H
                  clear H
                  go_wp2_with (first | ((with_reducible refine gate_callee (f := 13) rfl ?_); refine goesL_ (some 64) rfl rfl Try.func13 (by kernel_rfl) rfl #[.slice Ao37 t294.length co37] rfl (by (try simp only [List.map_toArray, List.map_cons, List.map_nil]); first | done | rfl | (simp only [List.length_drop, List.length_take]; rfl)) ?_; (with_reducible refine (pipe_May.calls _ _ t294 false _ ?side1 ?side2 A46.out).mono ?_); (case side1 => repeat (first | exact (Kd.N_reads' HO297.out).2.2 | (with_reducible refine Kd.C_alloc ?_ _) | (with_reducible refine Kd.C_drewN ?_ _) | (with_reducible refine Kd.C_drew ?_))); (case side2 => exact (Kd.N_reads' HO297.out).2.1); rintro e w56 ⟨rfl, hb⟩; refine ⟨_, rfl, ?_⟩; have n0_ := Aside0.mk (Kd.N_below (by (with_reducible repeat (first | apply Kd.N_alloc | apply Kd.N_drewN | apply Kd.N_drew)); exact HO297.out) hb); have n1_ := Aside0.mk (Kd.N_below (by (with_reducible repeat (first | apply Kd.N_alloc | apply Kd.N_drewN | apply Kd.N_drew)); exact HO321.out) hb); have n2_ := Aside0.mk (Kd.V_below (by (with_reducible repeat (first | apply Kd.V_alloc | apply Kd.V_drewN | apply Kd.V_drew)); exact HL325_1.out) hb); have n3_ := Aside0.mk (Kd.N_below (by (with_reducible repeat (first | apply Kd.N_alloc | apply Kd.N_drewN | apply Kd.N_drew)); exact HO328.out) hb); have n4_ := Aside0.mk (Kd.N_below (by (with_reducible repeat (first | apply Kd.N_alloc | apply Kd.N_drewN | apply Kd.N_drew)); exact HO331.out) hb); have n5_ := Aside0.mk (below_step (by repeat (first | (with_reducible first | exact HB.out | apply below_alloc | apply pw_below_drewN | apply below_drew1) | exact HB.out)) hb); clear HO297; clear HO321; clear HL325_1; clear HO328; clear HO331; clear HB; have HO297 := n0_; have HO321 := n1_; have HL325_1 := n2_; have HO328 := n3_; have HO331 := n4_; have HB := n5_; clear n0_ n1_ n2_ n3_ n4_ n5_; (try clear hb); (try clear hb2); (try clear hk); (try clear hi)))
                  go_meet
                  case rel => exact ⟨_, (false), (by first | rfl | (simp; done) | (simp [*]; done)), H', ⟨by first | omega | exact Nat.le_refl _⟩, ⟨by repeat (first | (with_reducible first | exact HB.out | apply below_alloc | apply pw_below_drewN | apply below_drew1) | exact HB.out)⟩⟩
              case rest =>
                clear HC14
                try clear c1
                try clear c2
                try clear p2
                try clear c3
                try clear p3
                try clear q3
                try clear hx3
                try clear c4
                try clear c5
                try clear p6
                try clear c7
                try clear c7b0
                try clear c7b1
                try clear c8
                try clear c8b0
                try clear c8b1
                try clear c10
                try clear c11
                try clear c11b0
                try clear c12
                try clear c12b0
                try clear c13
                try clear c15
                try clear c32
                try clear p32
                try clear q32
                try clear hx32
                try clear c47
                try clear c49
                try clear hx325_0
                try clear hx325_1
                try clear p325
                try clear q325
                obtain ⟨kq, x4_13, rfl, HA, HJ13, HB⟩ := hcut
                cases kq with
                | zero => exact absurd HA.out (by simp [stolelaw15_PipeMays.j1])
                | succ kj13 =>
                  have H := HA.out
                  clear HA
                  simp only [stolelaw15_PipeMays.j1] at H
                  obtain rfl := Option.some.inj H
                  go_wp2
                  go_ret
                  exact ⟨by first | rfl | (simp [errW_none, errW_some] <;> rfl) | (simp only [← hji10]; first | rfl | (simp [errW_none, errW_some] <;> rfl)) | (simp [*, errW_none, errW_some] <;> rfl), by repeat (first | (with_reducible first | exact HB.out | apply below_alloc | apply pw_below_drewN | apply below_drew1) | exact HB.out)⟩
            · rw [if_neg c13] at H
              exact absurd H (by simp)
          · rw [if_neg c12] at H
            exact absurd H (by simp)
        · rw [if_neg c11] at H
          exact absurd H (by simp)
      · rw [if_neg c8] at H
        exact absurd H (by simp)
    · rw [if_neg c7] at H
      have c7b0 : (t298 == 0) = false := beq_eq_false_iff_ne.mpr c7
      have c7b1 : (t298 != 0) = true := bne_iff_ne.mpr c7
      have HC57 := Aside0.mk H
      clear H
      go_enter Try.func4, Try.ntmps4
      go_upto_region 5 with (first | ((with_reducible refine gate_callee (f := 15) rfl ?_); refine goesL_ (some 9) rfl rfl Try.func15 (by kernel_rfl) rfl #[] rfl (by (try simp only [List.map_toArray, List.map_cons, List.map_nil]); first | done | rfl | (simp only [List.length_drop, List.length_take]; rfl)) ?_; (with_reducible refine (stolelaw15_awake.calls k  true _ A3.out).mono ?_); rintro e w58 ⟨rfl, hb⟩; refine ⟨_, rfl, ?_⟩; have n0_ := Aside0.mk (below_step (by repeat (first | (with_reducible first | exact HB.out | apply below_alloc | apply pw_below_drewN | apply below_drew1) | exact HB.out)) hb); clear HB; have HB := n0_; clear n0_; (try clear hb); (try clear hb2); (try clear hk); (try clear hi)) | ((with_reducible refine gate_callee (f := 7) rfl ?_); refine goesL_ (some 13) rfl rfl Try.func7 (by kernel_rfl) rfl #[.slice A0 l0.length c0] rfl (by (try simp only [List.map_toArray, List.map_cons, List.map_nil]); first | done | rfl | (simp only [List.length_drop, List.length_take]; rfl)) ?_; (with_reducible refine (pipe_Parse.calls _ _ l0 t294 t295 _ ?side1 ?side2 A5.out).mono ?_); (case side1 => repeat (first | exact (Kd.C_below HR0.out HB.out) | (with_reducible refine Kd.C_alloc ?_ _) | (with_reducible refine Kd.C_drewN ?_ _) | (with_reducible refine Kd.C_drew ?_))); (case side2 => exact HC0.out); rintro e w59 ⟨v296, rfl, ho0, hb⟩; refine ⟨_, rfl, ?_⟩; have n0_ := Aside0.mk (Kd.N_lower (Kd.N_mono (ok' := fun k_ => True) (Kd.R_N (Kd.R_bound ho0)) (fun k_ hk_ => trivial)) (below_size (by repeat (first | (with_reducible first | exact HB.out | apply below_alloc | apply pw_below_drewN | apply below_drew1) | exact HB.out)))); have n1_ := Aside0.mk (below_step (by repeat (first | (with_reducible first | exact HB.out | apply below_alloc | apply pw_below_drewN | apply below_drew1) | exact HB.out)) hb); clear HB; have HO297 := n0_; have HB := n1_; clear n0_ n1_; (try clear hb); (try clear hb2); (try clear hk); (try clear hi); (try clear ho0)) | ((with_reducible refine gate_callee (f := 10) rfl ?_); refine goesL_ (some 17) rfl rfl Try.func10 (by kernel_rfl) rfl #[.int .i64 t295] rfl (by (try simp only [List.map_toArray, List.map_cons, List.map_nil]); first | done | rfl | (simp only [List.length_drop, List.length_take]; rfl)) ?_; (with_reducible refine (stolelaw0_Num.calls t295 t298 _ A6.out).mono ?_); rintro e w' ⟨rfl, ⟨nd, rfl⟩⟩; refine ⟨_, rfl, ?_⟩))
      (try simp only [Act.put, List.setIfInBounds_toArray, List.set_cons_zero, List.set_cons_succ])
      go_cut [4] (fun v4 wc => ∃ (kq : Nat) (x4_56 : Bool), v4 = .bool x4_56 ∧ Aside0 (stolelaw15_PipeMays.j0 kq x4_56 = some r) ∧ Aside0 (kq ≤ k) ∧ Aside0 (Below w.heap.size w wc))
      case first =>
        have H := HC57.out
        clear HC57
        by_cases c60 : (t294.length : Int) = 0
        · rw [if_pos c60] at H
          have c60b0 : ((t294.length : Int) == 0) = true := beq_iff_eq.mpr c60
          have c60b1 : ((t294.length : Int) != 0) = false := bne_eq_false_iff_eq.mpr c60
          clear c60
          (first | rw [c60b0] | (simp only [i64_w, i32_w]; rw [c60b0]) | skip)
          replace H := Option.bind_eq_some_iff.mp H
          obtain ⟨t299, A610, H⟩ := H
          replace H : (if t299 = 1500 then (stolelaw15_PipeMays.j0 k true) else ((stolelaw0_Num.f t295).bind fun t300 => (stolelaw15_PipeMays.j0 k (t300 == 1501)))) = some r := H
          have A61 := Aside0.mk A610
          clear A610
          by_cases c62 : t299 = 1500
          · rw [if_pos c62] at H
            have c62b0 : (t299 == 1500) = true := beq_iff_eq.mpr c62
            have c62b1 : (t299 != 1500) = false := bne_eq_false_iff_eq.mpr c62
            clear c62
            have H' := Aside0.mk H
            clear H
            obtain ⟨Ao63, co63, eo63⟩ := Kd.N_slice HO297.out
            subst eo63
            go_wp2_with (first | (go_at_call 10; (with_reducible refine (stolelaw0_Num.calls t295 t299 _ A61.out).mono ?_); rintro e w' ⟨rfl, ⟨nd, rfl⟩⟩))
            go_meet
            case rel => exact ⟨_, (true), (by first | rfl | (simp; done) | (simp [*]; done)), H', ⟨by first | omega | exact Nat.le_refl _⟩, ⟨by repeat (first | (with_reducible first | exact HB.out | apply below_alloc | apply pw_below_drewN | apply below_drew1) | exact HB.out)⟩⟩
          · rw [if_neg c62] at H
            have c62b0 : (t299 == 1500) = false := beq_eq_false_iff_ne.mpr c62
            have c62b1 : (t299 != 1500) = true := bne_iff_ne.mpr c62
            replace H := Option.bind_eq_some_iff.mp H
            obtain ⟨t300, A640, H⟩ := H
            replace H : (stolelaw15_PipeMays.j0 k (t300 == 1501)) = some r := H
            have A64 := Aside0.mk A640
            clear A640
            have H' := Aside0.mk H
            clear H
            obtain ⟨Ao65, co65, eo65⟩ := Kd.N_slice HO297.out
            subst eo65
            go_wp2_with (first | (go_at_call 10; (with_reducible refine (stolelaw0_Num.calls t295 t299 _ A61.out).mono ?_); rintro e w' ⟨rfl, ⟨nd, rfl⟩⟩) | (go_at_call 10; (with_reducible refine (stolelaw0_Num.calls t295 t300 _ A64.out).mono ?_); rintro e w' ⟨rfl, ⟨nd, rfl⟩⟩))
            go_meet
            case rel => exact ⟨_, ((t300 == 1501)), (by first | rfl | (have e_ := Option.some.inj (A61.out.symm.trans A64.out); rw [e_]) | (simp; done) | (simp [*]; done)), H', ⟨by first | omega | exact Nat.le_refl _⟩, ⟨by repeat (first | (with_reducible first | exact HB.out | apply below_alloc | apply pw_below_drewN | apply below_drew1) | exact HB.out)⟩⟩
        · rw [if_neg c60] at H
          have c60b0 : ((t294.length : Int) == 0) = false := beq_eq_false_iff_ne.mpr c60
          have c60b1 : ((t294.length : Int) != 0) = true := bne_iff_ne.mpr c60
          have c60b2 : ¬ (t294 = []) := fun h_ => c60 (by rw [h_]; rfl)
          (first | rw [c60b0] | (simp only [i64_w, i32_w]; rw [c60b0]) | skip)
          have H' := Aside0.mk H
          clear H
          obtain ⟨Ao66, co66, eo66⟩ := Kd.N_slice HO297.out
          subst eo66
          go_wp2
          go_meet
          case rel => exact ⟨_, (false), (by first | rfl | (simp; done) | (simp [*]; done)), H', ⟨by first | omega | exact Nat.le_refl _⟩, ⟨by repeat (first | (with_reducible first | exact HB.out | apply below_alloc | apply pw_below_drewN | apply below_drew1) | exact HB.out)⟩⟩
      case rest =>
        clear HC57
        try clear c1
        try clear c2
        try clear p2
        try clear c3
        try clear p3
        try clear q3
        try clear hx3
        try clear c4
        try clear c5
        try clear c6
        try clear p6
        try clear c7
        try clear c7b0
        try clear c7b1
        try clear c8
        try clear c8b0
        try clear c8b1
        try clear c10
        try clear c11
        try clear c11b0
        try clear c12
        try clear c12b0
        try clear c13
        try clear c15
        try clear c32
        try clear p32
        try clear q32
        try clear hx32
        try clear c47
        try clear c49
        try clear c60
        try clear c60b0
        try clear c60b1
        try clear c60b2
        try clear c62
        try clear c62b0
        try clear c62b1
        try clear p64
        try clear hx325_0
        try clear hx325_1
        try clear p2
        try clear p3
        try clear p32
        try clear p325
        try clear p6
        try clear q3
        try clear q32
        try clear q325
        obtain ⟨kq, x4_56, rfl, HA, HJ56, HB⟩ := hcut
        cases kq with
        | zero => exact absurd HA.out (by simp [stolelaw15_PipeMays.j0])
        | succ kj56 =>
          have H := HA.out
          clear HA
          simp only [stolelaw15_PipeMays.j0] at H
          obtain rfl := Option.some.inj H
          go_wp2
          go_ret
          exact ⟨by first | rfl | (simp [errW_none, errW_some] <;> rfl) | (simp [*, errW_none, errW_some] <;> rfl), by repeat (first | (with_reducible first | exact HB.out | apply below_alloc | apply pw_below_drewN | apply below_drew1) | exact HB.out)⟩
  · replace c4 := Bool.eq_false_iff.mpr c4
    subst c4
    have H1 : (some false) = some r := by rw [if_neg (show ¬ (false = true) by decide)] at H; exact H
    clear H
    have H := H1
    clear H1
    obtain rfl := Option.some.inj H
    go_enter Try.func4, Try.ntmps4
    go_wp2_with (first | ((with_reducible refine gate_callee (f := 15) rfl ?_); refine goesL_ (some 9) rfl rfl Try.func15 (by kernel_rfl) rfl #[] rfl (by (try simp only [List.map_toArray, List.map_cons, List.map_nil]); first | done | rfl | (simp only [List.length_drop, List.length_take]; rfl)) ?_; (with_reducible refine (stolelaw15_awake.calls k  false _ A3.out).mono ?_); rintro e w67 ⟨rfl, hb⟩; refine ⟨_, rfl, ?_⟩; have n0_ := Aside0.mk (below_step (by repeat (first | (with_reducible first | exact HB.out | apply below_alloc | apply pw_below_drewN | apply below_drew1) | exact HB.out)) hb); clear HB; have HB := n0_; clear n0_; (try clear hb); (try clear hb2); (try clear hk); (try clear hi)))
    go_ret
    exact ⟨by first | rfl | (simp [errW_none, errW_some] <;> rfl) | (simp [*, errW_none, errW_some] <;> rfl), by repeat (first | (with_reducible first | exact HB.out | apply below_alloc | apply pw_below_drewN | apply below_drew1) | exact HB.out)⟩

end Go.Proofs.Ythaapadjlknieaa.Q
