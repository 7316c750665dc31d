/- The law's CopyPipe gives the same commands. -/
import Derived.Test.YthaapadjlknieaaQ7
import Derived.Test.YthaapadjlknieaaPipeH
namespace Go.Proofs.Ythaapadjlknieaa.Pure
set_option linter.unusedSimpArgs false
set_option linter.unusedVariables false
open Go.RowKit Go.Proofs.Ythaapadjlknieaa.Q Go.Proofs.Ythaapadjlknieaa.Pipe Go.Proofs.YthaapadjlknieaaW.PrintWords Go.Proofs.YthaapadjlknieaaW.PrintLast Go.Proofs.YthaapadjlknieaaW.PrintMore
theorem bindC {α β : Type} (x : α) (f : α → Option β) (y : Option α) (h : y = some x) : y.bind f = f x := by subst h; exact Option.bind_some ..
/-- Sizes that a copy bears. -/
def sizedC (c : Cm) : Prop := c.f1.length ≤ 1048576 ∧ ∀ a ∈ c.f1, a.f2.length ≤ 1048576
theorem copy_args (p out : List Cm) (i : Nat) (hi : i < p.length) (hp : p.length ≤ 1048576) (x : Cm) (hx : rd_T38 p (i : Int) = x) (hs : sizedC x) (ho : out.length ≤ 1048576) {r} :
    ∀ m j acc, j + m = x.f1.length → acc.length = j → (∃ k, stolelaw0_CopyPipe.l0 k p (out ++ [⟨x.f0, acc ++ x.f1.drop j⟩]) ((i + 1 : Nat) : Int) = some r) → ∃ k, stolelaw0_CopyPipe.l1 k p out (i : Int) (j : Int) x.f0 acc = some r
  | 0, j, acc, h, ha, ⟨k, hk⟩ => ⟨k + 1, by
    have e2 : wrap64 ((i : Int) + 1) = ((i + 1 : Nat) : Int) := by rw [Pipe.wrap_small ((i : Int) + 1) (by omega) (by omega)]; rfl
    rw [List.drop_of_length_le (by omega), List.append_nil] at hk
    unfold stolelaw0_CopyPipe.l1
    rw [if_pos (by omega), if_pos (by omega), hx, if_neg (by omega), if_pos (by omega), e2]
    exact hk⟩
  | m + 1, j, acc, h, ha, hk => by
    have hj : j < x.f1.length := by omega
    have hs1 := hs.1
    have hd : x.f1.drop j = rd_T41 x.f1 (j : Int) :: x.f1.drop (j + 1) := rd_A x.f1 j hj
    have hm : (rd_T41 x.f1 (j : Int)).f2.length ≤ 1048576 := by
      refine hs.2 _ ?_
      have : rd_T41 x.f1 (j : Int) ∈ x.f1.drop j := by rw [hd]; exact List.mem_cons_self
      exact List.mem_of_mem_drop this
    have hk' : ∃ k, stolelaw0_CopyPipe.l0 k p (out ++ [⟨x.f0, (acc ++ [rd_T41 x.f1 (j : Int)]) ++ x.f1.drop (j + 1)⟩]) ((i + 1 : Nat) : Int) = some r := by
      obtain ⟨k, hk⟩ := hk
      refine ⟨k, ?_⟩
      rw [hd] at hk
      rw [List.append_assoc]
      exact hk
    obtain ⟨k, ih⟩ := copy_args p out i hi hp x hx hs ho m (j + 1) (acc ++ [rd_T41 x.f1 (j : Int)]) (by omega) (by rw [List.length_append, ha]; rfl) hk'
    refine ⟨k + 1, ?_⟩
    have e2 : wrap64 ((j : Int) + 1) = ((j + 1 : Nat) : Int) := by rw [Pipe.wrap_small ((j : Int) + 1) (by omega) (by omega)]; rfl
    unfold stolelaw0_CopyPipe.l1
    rw [if_pos (by omega), if_pos (by omega), hx, if_pos (by omega), if_pos (by omega), Option.bind_some, if_pos (by simp; omega), if_pos (by omega), e2]
    rw [List.nil_append]
    exact ih
theorem copy_cmds (p : List Cm) (hp : p.length ≤ 1048576) (hs : ∀ x ∈ p, sizedC x) : ∀ m i out, i + m = p.length → out.length = i → ∃ k, stolelaw0_CopyPipe.l0 k p out (i : Int) = some (out ++ p.drop i)
  | 0, i, out, h, ho => ⟨1, by
    unfold stolelaw0_CopyPipe.l0
    rw [if_neg (by omega), List.drop_of_length_le (by omega), List.append_nil]⟩
  | m + 1, i, out, h, ho => by
    have hi : i < p.length := by omega
    have hd := rd_C p i hi
    have hm : rd_T38 p (i : Int) ∈ p := by
      have : rd_T38 p (i : Int) ∈ p.drop i := by rw [hd]; exact List.mem_cons_self
      exact List.mem_of_mem_drop this
    obtain ⟨x, hx⟩ : ∃ x, rd_T38 p (i : Int) = x := ⟨_, rfl⟩
    rw [hx] at hd hm
    obtain ⟨k1, h1⟩ := copy_cmds p hp hs m (i + 1) (out ++ [x]) (by omega) (by rw [List.length_append, ho]; rfl)
    rw [List.append_assoc] at h1
    have h1' : stolelaw0_CopyPipe.l0 k1 p (out ++ [⟨x.f0, [] ++ x.f1.drop 0⟩]) ((i + 1 : Nat) : Int) = some (out ++ p.drop i) := by
      rw [hd]
      exact h1
    obtain ⟨k, hk⟩ := copy_args p out i hi hp x hx (hs x hm) (by omega) x.f1.length 0 [] (by omega) rfl ⟨k1, h1'⟩
    refine ⟨k + 1, ?_⟩
    unfold stolelaw0_CopyPipe.l0
    rw [if_pos (by omega), if_pos (by omega), hx]
    exact hk
theorem copy_total (p : List Cm) (hp : p.length ≤ 1048576) (hs : ∀ x ∈ p, sizedC x) : ∃ k, stolelaw0_CopyPipe.f k p = some p := by
  obtain ⟨k, h⟩ := copy_cmds p hp hs p.length 0 [] (by omega) rfl
  exact ⟨k, h⟩
end Go.Proofs.Ythaapadjlknieaa.Pure
