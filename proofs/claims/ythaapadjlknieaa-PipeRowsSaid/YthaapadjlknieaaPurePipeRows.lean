/- Commands of so many arguments: the law PipeRows, over numbers alone: each of its cases is reckoned. -/
import Derived.Test.YthaapadjlknieaaQ5
namespace Go.Proofs.Ythaapadjlknieaa.Pure
set_option linter.unusedSimpArgs false
set_option linter.unusedVariables false
open Go.RowKit Go.Proofs.Ythaapadjlknieaa.Q Go.Proofs.Ythaapadjlknieaa.Pipe Go.Proofs.YthaapadjlknieaaW.PrintWords Go.Proofs.YthaapadjlknieaaW.PrintLast Go.Proofs.YthaapadjlknieaaW.PrintMore
theorem bindC {α β : Type} (x : α) (f : α → Option β) (y : Option α) (h : y = some x) : y.bind f = f x := by subst h; exact Option.bind_some ..
theorem tmodN (a : Int) (n : Nat) (h0 : 0 < n) (h1 : n < 1000) : ∃ K : Nat, wrap64 (Int.tmod (IntKind.u64.wrap a) (n : Int)) = (K : Int) ∧ K < n := by
  have e : IntKind.u64.wrap a = a % 18446744073709551616 := rfl
  have h2 : 0 ≤ a % 18446744073709551616 := by omega
  obtain ⟨m, hm⟩ := Int.eq_ofNat_of_zero_le h2
  have hl : m % n < n := Nat.mod_lt _ h0
  have e2 : Int.tmod (m : Int) (n : Int) = ((m % n : Nat) : Int) := rfl
  obtain ⟨q, hq⟩ : ∃ q, m % n = q := ⟨_, rfl⟩
  rw [hq] at hl e2
  refine ⟨q, ?_, hl⟩
  have hq9 : q < 1000 := Nat.lt_trans hl h1
  have hw : wrap64 (q : Int) = (q : Int) := by
    clear hq e2 hm h2 e hl
    exact Pipe.wrap_small (q : Int) (by omega) (by omega)
  rw [e, hm, e2]
  exact hw
abbrev rowsL (k m : Int) : Option Bool := stolelaw15_PipeRows.l0 800 (wrap64 (1 + k)) m ([] : List (S45)) 0
theorem rows_all : ((List.range 12).all fun k => (List.range 12).all fun m => rowsL (k : Int) (m : Int) == some true) = true := by kernel_rfl
theorem rows_of (k m : Nat) (hk : k < 12) (hm : m < 12) : rowsL (k : Int) (m : Int) = some true := by
  have h1 := List.all_eq_true.1 rows_all k (List.mem_range.2 hk)
  have h2 := List.all_eq_true.1 h1 m (List.mem_range.2 hm)
  exact eq_of_beq h2
theorem PipeRows : stolelaw15_PipeRows.Pure := by
  intro a0 a1 w0 w1
  obtain ⟨k, ek, hk⟩ := tmodN a0 12 (by decide) (by decide)
  obtain ⟨m, em, hm⟩ := tmodN a1 12 (by decide) (by decide)
  have ek' : wrap64 (Int.tmod (IntKind.u64.wrap a0) 12) = (k : Int) := ek
  have em' : wrap64 (Int.tmod (IntKind.u64.wrap a1) 12) = (m : Int) := em
  refine ⟨800, ?_⟩
  unfold stolelaw15_PipeRows.f
  rw [bindC _ _ _ (show stolelaw15_awake.f 800 = some true from by kernel_rfl), if_pos rfl, ek', em']
  exact rows_of k m hk hm
end Go.Proofs.Ythaapadjlknieaa.Pure
