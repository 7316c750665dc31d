/- The law's CopyPipe gives the same commands; what is read may be, with a command more that is none it may not: the law PipeMays, in plain words. -/
import Derived.Test.YthaapadjlknieaaQ8
namespace Go.Proofs.Ythaapadjlknieaa.Pure
set_option linter.unusedSimpArgs false
set_option linter.unusedVariables false
open Go.RowKit Go.Proofs.Ythaapadjlknieaa.Q Go.Proofs.Ythaapadjlknieaa.Pipe Go.Proofs.YthaapadjlknieaaW.PrintWords Go.Proofs.YthaapadjlknieaaW.PrintLast Go.Proofs.YthaapadjlknieaaW.PrintMore
theorem bindC {α β : Type} (x : α) (f : α → Option β) (y : Option α) (h : y = some x) : y.bind f = f x := by subst h; exact Option.bind_some ..
/-- Sizes that a copy bears. -/
def sizedC (c : Cm) : Prop := c.f1.length ≤ 1048576 ∧ ∀ a ∈ c.f1, a.f2.length ≤ 1048576
theorem copy0_le {a b : List Cm} {i : Int} {k : Nat} {r} (h : stolelaw0_CopyPipe.l0 k a b i = some r) : ∀ m, stolelaw0_CopyPipe.l0 (k + m) a b i = some r
  | 0 => h
  | m + 1 => (stolelaw0_CopyPipe.mono_l (k + m)).1 a b i _ (copy0_le h m)
theorem copy1_le {a b : List Cm} {i j : Int} {s : ByteArray} {c : List Ag} {k : Nat} {r} (h : stolelaw0_CopyPipe.l1 k a b i j s c = some r) : ∀ m, stolelaw0_CopyPipe.l1 (k + m) a b i j s c = some r
  | 0 => h
  | m + 1 => (stolelaw0_CopyPipe.mono_l (k + m)).2 a b i j s c _ (copy1_le h m)
theorem copy_args (p out : List Cm) (i : Nat) (hi : i < p.length) (hp : p.length ≤ 1048576) (x : Cm) (hx : rd_T38 p (i : Int) = x) (hs : sizedC x) (ho : out.length ≤ 1048576) {r} :
    ∀ m j acc, j + m = x.f1.length → acc.length = j → (∃ k, stolelaw0_CopyPipe.l0 k p (out ++ [⟨x.f0, acc ++ x.f1.drop j⟩]) ((i + 1 : Nat) : Int) = some r) → ∃ k, stolelaw0_CopyPipe.l1 k p out (i : Int) (j : Int) x.f0 acc = some r
  | 0, j, acc, h, ha, ⟨k, hk⟩ => ⟨k + 1, by
    have e2 : wrap64 ((i : Int) + 1) = ((i + 1 : Nat) : Int) := by rw [Pipe.wrap_small ((i : Int) + 1) (by omega) (by omega)]; rfl
    rw [List.drop_of_length_le (by omega), List.append_nil] at hk
    unfold stolelaw0_CopyPipe.l1
    rw [if_pos (by omega), if_pos (by omega), hx, if_neg (by omega), if_pos (by omega), e2]
    exact hk⟩
  | m + 1, j, acc, h, ha, hk => by
    have hj : j < x.f1.length := by omega
    have hs1 := hs.1
    have hd : x.f1.drop j = rd_T41 x.f1 (j : Int) :: x.f1.drop (j + 1) := rd_A x.f1 j hj
    have hm : (rd_T41 x.f1 (j : Int)).f2.length ≤ 1048576 := by
      refine hs.2 _ ?_
      have : rd_T41 x.f1 (j : Int) ∈ x.f1.drop j := by rw [hd]; exact List.mem_cons_self
      exact List.mem_of_mem_drop this
    have hk' : ∃ k, stolelaw0_CopyPipe.l0 k p (out ++ [⟨x.f0, (acc ++ [rd_T41 x.f1 (j : Int)]) ++ x.f1.drop (j + 1)⟩]) ((i + 1 : Nat) : Int) = some r := by
      obtain ⟨k, hk⟩ := hk
      refine ⟨k, ?_⟩
      rw [hd] at hk
      rw [List.append_assoc]
      exact hk
    obtain ⟨k, ih⟩ := copy_args p out i hi hp x hx hs ho m (j + 1) (acc ++ [rd_T41 x.f1 (j : Int)]) (by omega) (by rw [List.length_append, ha]; rfl) hk'
    refine ⟨k + 1, ?_⟩
    have e2 : wrap64 ((j : Int) + 1) = ((j + 1 : Nat) : Int) := by rw [Pipe.wrap_small ((j : Int) + 1) (by omega) (by omega)]; rfl
    unfold stolelaw0_CopyPipe.l1
    rw [if_pos (by omega), if_pos (by omega), hx, if_pos (by omega), if_pos (by omega), Option.bind_some, if_pos (by simp; omega), if_pos (by omega), e2]
    rw [List.nil_append]
    exact ih
theorem copy_cmds (p : List Cm) (hp : p.length ≤ 1048576) (hs : ∀ x ∈ p, sizedC x) : ∀ m i out, i + m = p.length → out.length = i → ∃ k, stolelaw0_CopyPipe.l0 k p out (i : Int) = some (out ++ p.drop i)
  | 0, i, out, h, ho => ⟨1, by
    unfold stolelaw0_CopyPipe.l0
    rw [if_neg (by omega), List.drop_of_length_le (by omega), List.append_nil]⟩
  | m + 1, i, out, h, ho => by
    have hi : i < p.length := by omega
    have hd := rd_C p i hi
    have hm : rd_T38 p (i : Int) ∈ p := by
      have : rd_T38 p (i : Int) ∈ p.drop i := by rw [hd]; exact List.mem_cons_self
      exact List.mem_of_mem_drop this
    obtain ⟨x, hx⟩ : ∃ x, rd_T38 p (i : Int) = x := ⟨_, rfl⟩
    rw [hx] at hd hm
    obtain ⟨k1, h1⟩ := copy_cmds p hp hs m (i + 1) (out ++ [x]) (by omega) (by rw [List.length_append, ho]; rfl)
    rw [List.append_assoc] at h1
    have h1' : stolelaw0_CopyPipe.l0 k1 p (out ++ [⟨x.f0, [] ++ x.f1.drop 0⟩]) ((i + 1 : Nat) : Int) = some (out ++ p.drop i) := by
      rw [hd]
      exact h1
    obtain ⟨k, hk⟩ := copy_args p out i hi hp x hx (hs x hm) (by omega) x.f1.length 0 [] (by omega) rfl ⟨k1, h1'⟩
    refine ⟨k + 1, ?_⟩
    unfold stolelaw0_CopyPipe.l0
    rw [if_pos (by omega), if_pos (by omega), hx]
    exact hk
theorem copy_total (p : List Cm) (hp : p.length ≤ 1048576) (hs : ∀ x ∈ p, sizedC x) : ∃ k, stolelaw0_CopyPipe.f k p = some p := by
  obtain ⟨k, h⟩ := copy_cmds p hp hs p.length 0 [] (by omega) rfl
  exact ⟨k, h⟩
theorem am_path {a : Ag} (h : amB a = true) : a.f2.length ≤ 8 := by
  unfold amB pathB at h
  simp only [Bool.and_eq_true, decide_eq_true_eq] at h
  exact h.2.1.1.1
theorem cms_all : ∀ {b : Bool} {p : List Cm}, cmsB b p = true → ∀ x ∈ p, sizedC x
  | b, [], _, x, hx => by cases hx
  | b, c :: p, h, x, hx => by
    unfold cmsB at h
    rw [Bool.and_eq_true] at h
    rcases List.mem_cons.1 hx with rfl | hx
    · have h1 := h.1
      unfold cmB at h1
      simp only [Bool.and_eq_true, decide_eq_true_eq] at h1
      exact ⟨by have := h1.1.2; omega, fun a ha => by have := am_path (List.all_eq_true.1 h1.2 a ha); omega⟩
    · exact cms_all h.2 x hx
theorem may_sized {p : List Cm} (h : mayP p = true) : ∀ x ∈ p, sizedC x := by
  unfold mayP at h
  rw [Bool.and_eq_true] at h
  exact cms_all h.2
theorem awake_le {k : Nat} {r} (h : stolelaw15_awake.f k = some r) : ∀ m, stolelaw15_awake.f (k + m) = some r
  | 0 => h
  | m + 1 => stolelaw15_awake.mono (k + m) _ (awake_le h m)
theorem copyF_le {p : List Cm} {k : Nat} {r} (h : stolelaw0_CopyPipe.f k p = some r) : ∀ m, stolelaw0_CopyPipe.f (k + m) p = some r
  | 0 => h
  | m + 1 => stolelaw0_CopyPipe.mono p (k + m) _ (copyF_le h m)
theorem tmod8 (a : Int) : ∃ K : Nat, wrap64 (Int.tmod (IntKind.u64.wrap a) 8) = (K : Int) ∧ K < 8 := by
  have e : IntKind.u64.wrap a = a % 18446744073709551616 := rfl
  have h0 : 0 ≤ a % 18446744073709551616 := by omega
  obtain ⟨n, hn⟩ := Int.eq_ofNat_of_zero_le h0
  refine ⟨n % 8, ?_, Nat.mod_lt _ (by decide)⟩
  rw [e, hn]
  have e2 : Int.tmod (n : Int) 8 = ((n % 8 : Nat) : Int) := rfl
  rw [e2]
  exact Pipe.wrap_small _ (by omega) (by omega)
abbrev bads : List Cm := [⟨⟨#[]⟩, []⟩, ⟨⟨#[102, 111, 111]⟩, []⟩, ⟨⟨#[]⟩, [⟨2, ⟨#[]⟩, [], 1, ⟨#[]⟩⟩]⟩, ⟨⟨#[99, 97, 116]⟩, [⟨99, ⟨#[]⟩, [], 0, ⟨#[]⟩⟩]⟩, ⟨⟨#[99, 97, 116]⟩, [⟨1, ⟨#[]⟩, [], 0, ⟨#[]⟩⟩]⟩, ⟨⟨#[99, 97, 116]⟩, [⟨4, ⟨#[]⟩, [], 2, ⟨#[]⟩⟩]⟩, ⟨⟨#[99, 97, 116]⟩, [⟨5, ⟨#[]⟩, [], 0, ⟨#[120]⟩⟩]⟩, ⟨⟨#[99, 97, 116]⟩, List.replicate 9 z41⟩]
theorem bads_all : ((List.range 8).all fun i => !cmB false (rd_T38 bads (i : Int))) = true := by kernel_rfl
theorem bad_no (i : Nat) (hi : i < 8) : cmB false (rd_T38 bads (i : Int)) = false := by
  have h1 := List.all_eq_true.1 bads_all i (List.mem_range.2 hi)
  simpa using h1
theorem PipeMays (l0 : List Wd) (a1 : Int) (hl : l0.length ≤ 1048576) : ∃ k, stolelaw15_PipeMays.f k l0 a1 = some true := by
  have aw : stolelaw15_awake.f 60 = some true := by kernel_rfl
  have hp : pipe_Parse.f l0 = some (parseR l0) := by unfold pipe_Parse.f; rw [if_pos hl]
  have hn : ∀ x, stolelaw0_Num.f x = some x := fun x => rfl
  rcases parse_err l0 with h0 | ⟨h1, h2⟩
  · obtain ⟨p, hpe⟩ : ∃ p, parseR l0 = (p, 0) := ⟨(parseR l0).1, by rw [← h0]⟩
    have hm := parse_may hpe
    have hlen := may_len hm
    have h1 : 1 ≤ p.length := by unfold mayP at hm; simp at hm; omega
    obtain ⟨k, hk⟩ := copy_total p (by omega) (may_sized hm)
    obtain ⟨i, ei, hi⟩ := tmod8 a1
    refine ⟨60 + k, ?_⟩
    have hk2 := copyF_le hk 60
    rw [Nat.add_comm k 60] at hk2
    unfold stolelaw15_PipeMays.f
    rw [bindC _ _ _ (awake_le aw k), if_pos rfl, hp, Option.bind_some, hpe, bindC _ _ _ (hn _), if_pos rfl, if_pos (by decide), Option.bind_some, bindC _ _ _ hk2, ei, if_pos (by omega), if_pos (by show (i : Int) < 8; omega), Option.bind_some, if_pos (by show p.length + 1 < _; omega)]
    have m1 : pipe_May.f p = some true := by unfold pipe_May.f; rw [hm]
    have m2 : pipe_May.f (p ++ [rd_T38 bads (i : Int)]) = some false := by unfold pipe_May.f; rw [may_app_bad h1 (bad_no i hi)]
    rw [bindC _ _ _ m1, if_pos rfl, bindC _ _ _ m2, if_neg (by decide), Nat.add_comm 60 k]
    show some (decide ((p.length : Int) ≤ 8)) = some true
    rw [decide_eq_true (by omega)]
  · refine ⟨60, ?_⟩
    unfold stolelaw15_PipeMays.f
    rw [bindC _ _ _ aw, if_pos rfl, hp, Option.bind_some, bindC _ _ _ (hn _), if_neg (by omega), h1, if_pos (show (([] : List Cm).length : Int) = 0 from rfl), bindC _ _ _ (hn _)]
    rcases h2 with h2 | h2
    · rw [h2, if_pos rfl]; rfl
    · rw [h2, if_neg (by decide), bindC _ _ _ (hn _)]; rfl
theorem pipeMays_calls (A0 : Option Addr) (c0 : Nat) (l0 : List Wd) (a1 : Int) (W : World) (hc : l0.length ≤ c0) (hr : Kd.C kW W A0 l0.length l0) (hb : l0.length ≤ 1048576) :
    Calls Try.prog 4 #[.slice A0 l0.length c0, .int .i64 a1] W fun e w' => e = .returned (.bool true) ∧ Below W.heap.size W w' := by
  obtain ⟨k, h⟩ := PipeMays l0 a1 hb
  exact stolelaw15_PipeMays.calls k A0 c0 l0 a1 true W hr hc h
end Go.Proofs.Ythaapadjlknieaa.Pure
