/- The law EvalRows in plain words: a pipe of two or more is its last command with the value of what stands ahead as its last argument. -/
import Derived.Test.YtdghnfmhcnlppaaGreatDoorAwake19
namespace Go.Proofs.YtdghnfmhcnlppaaGreatDoor.Eval
open Go.RowKit Go.Proofs.YtdghnfmhcnlppaaGreatDoor.Q Go.Proofs.YtdghnfmhcnlppaaGreatDoor.Real Go.Proofs.YtdghnfmhcnlppaaGreatDoor.RealPure Go.Proofs.YtdghnfmhcnlppaaGreatDoor.Values Go.Proofs.YtdghnfmhcnlppaaGreatDoor.Fns Go.Proofs.YtdghnfmhcnlppaaGreatDoorW.PrintWords Go.Proofs.YtdghnfmhcnlppaaGreatDoorW.PrintLast Go.Proofs.YtdghnfmhcnlppaaGreatDoorW.PrintMore
set_option linter.unusedSimpArgs false
set_option linter.unusedVariables false

/-! ### an error's value is nought -/
theorem catL_err : ∀ (l : List V) (acc : List UInt8) (lg : Bool), (catL l acc lg).2 ≠ 0 → (catL l acc lg).1 = z27
  | [], acc, lg, h => by
    unfold catL at h ⊢
    cases lg with
    | true => rfl
    | false => exact absurd rfl h
  | x :: xs, acc, lg, h => by
    unfold catL at h ⊢
    by_cases h0 : saidE x = 0
    · rw [if_pos h0] at h ⊢
      split
      · rename_i hc; rw [if_pos hc] at h; exact catL_err xs _ _ h
      · rename_i hc; rw [if_neg hc] at h; exact catL_err xs _ _ h
    · rw [if_neg h0]
theorem lengthR_err (x : V) (h : (lengthR x).2 ≠ 0) : (lengthR x).1 = z27 := by
  unfold lengthR at h ⊢
  by_cases c1 : (x.f0 == 4) = true
  · rw [if_pos c1] at h; exact absurd rfl h
  · rw [if_neg c1] at h ⊢
    by_cases c2 : (x.f0 == 5 || x.f0 == 6) = true
    · rw [if_pos c2] at h; exact absurd rfl h
    · rw [if_neg c2]
theorem indexR_err (x y : V) (h : (indexR x y).2 ≠ 0) : (indexR x y).1 = z27 := by
  unfold indexR at h ⊢
  cases hi : idxI x y with
  | none => rfl
  | some i =>
    rw [hi] at h
    have h : (if i < 0 ∨ (x.f4.length : Int) ≤ i then ((z27, 1803) : V × Int) else (rd_T27 x.f4 i, 0)).2 ≠ 0 := h
    show (if i < 0 ∨ (x.f4.length : Int) ≤ i then ((z27, 1803) : V × Int) else (rd_T27 x.f4 i, 0)).1 = z27
    by_cases c : i < 0 ∨ (x.f4.length : Int) ≤ i
    · rw [if_pos c]
    · rw [if_neg c] at h; exact absurd rfl h
theorem lessR_err (x y : V) (h : (if lessE x y = 0 then (boolV (lessB x y), (0 : Int)) else (z27, 1802)).2 ≠ 0) : (if lessE x y = 0 then (boolV (lessB x y), (0 : Int)) else (z27, 1802)).1 = z27 := by
  by_cases c : lessE x y = 0
  · rw [if_pos c] at h; exact absurd rfl h
  · rw [if_neg c]
theorem doesR_err (f : Nat) (l : List V) (h : (doesR f l).2 ≠ 0) : (doesR f l).1 = z27 := by
  match f with
  | 0 => exact lengthR_err _ h
  | 1 => exact indexR_err _ _ h
  | 2 => exact absurd rfl h
  | 3 => exact lessR_err _ _ h
  | 4 => exact absurd rfl h
  | 5 => exact absurd rfl h
  | 6 => exact absurd rfl h
  | n + 7 => exact catL_err l [] false h
theorem callR_err (nm : ByteArray) (l : List V) (h : (callR nm l).2 ≠ 0) : (callR nm l).1 = z27 := by
  unfold callR at h ⊢
  split
  · rfl
  · rename_i h1
    rw [if_neg h1] at h
    split
    · rfl
    · rename_i h2
      rw [if_neg h2] at h
      split
      · rfl
      · rename_i h3
        rw [if_neg h3] at h
        exact doesR_err _ _ h

/-! ### what may be, cut -/
theorem emptyL : ((⟨#[]⟩ : ByteArray).toList == ([] : List UInt8)) = true := by kernel_rfl
theorem cmsB_snoc (c : Cm) : ∀ (p0 : List Cm) (b : Bool), Pipe.cmsB b (p0 ++ [c]) = true → Pipe.cmsB b p0 = true ∧ Pipe.cmB (b && p0.isEmpty) c = true
  | [], b, h => by
    have h : (Pipe.cmB b c && Pipe.cmsB false []) = true := h
    rw [Bool.and_eq_true] at h
    rw [List.isEmpty_nil, Bool.and_true]
    exact ⟨rfl, h.1⟩
  | d :: ds, b, h => by
    have h : (Pipe.cmB b d && Pipe.cmsB false (ds ++ [c])) = true := h
    rw [Bool.and_eq_true] at h
    have ih := cmsB_snoc c ds false h.2
    rw [Bool.false_and] at ih
    rw [List.isEmpty_cons, Bool.and_false]
    exact ⟨by show (Pipe.cmB b d && Pipe.cmsB false ds) = true; rw [h.1, ih.1]; rfl, ih.2⟩
theorem cm_last {c : Cm} (h : Pipe.cmB false c = true) : (c.f0.toList == ([] : List UInt8)) = false ∧ c.f1.length ≤ 8 ∧ ∀ a ∈ c.f1, Pipe.amB a = true := by
  unfold Pipe.cmB at h
  rw [Bool.and_false, Bool.false_and, Bool.false_or, Bool.and_eq_true, Bool.and_eq_true] at h
  refine ⟨?_, of_decide_eq_true h.1.2, List.all_eq_true.1 h.2⟩
  have hf := h.1.1
  unfold Pipe.fnB at hf
  generalize c.f0.toList = s at hf ⊢
  cases s with
  | nil => exact absurd hf (by decide)
  | cons x xs => rfl
theorem may_one {a : Ag} (hm : Pipe.amB a = true) : Pipe.mayP [⟨⟨#[]⟩, [a]⟩] = true := by
  have hc : Pipe.cmB true ⟨⟨#[]⟩, [a]⟩ = true := by
    unfold Pipe.cmB
    dsimp only
    rw [emptyL, List.all_cons, hm]; rfl
  unfold Pipe.mayP
  show (true && true && (Pipe.cmB true ⟨⟨#[]⟩, [a]⟩ && true)) = true
  rw [hc]; rfl
/-- A pipe of one argument. -/
theorem pipe_any (a : Ag) (e : En) (hm : Pipe.amB a = true) (he : envB e = true) : pipeR [⟨⟨#[]⟩, [a]⟩] e = if (argR e a).2 = 0 then ((argR e a).1, 0) else (z27, (argR e a).2) := by
  unfold pipeR
  rw [may_one hm, he]
  show reckR e [⟨⟨#[]⟩, [a]⟩] [] z27 = _
  unfold reckR
  by_cases h0 : (argR e a).2 = 0
  · have ha2 : argsR e [a] = ([(argR e a).1], 0) := by unfold argsR argsR; rw [if_pos h0]
    have hc : cmdR e [] ⟨⟨#[]⟩, [a]⟩ = ((argR e a).1, 0) := by
      unfold cmdR
      dsimp only
      rw [ha2, if_pos rfl, if_pos emptyL]; rfl
    rw [hc, if_pos h0]; rfl
  · have ha2 : argsR e [a] = ([], (argR e a).2) := by unfold argsR; rw [if_neg h0]
    have hc : cmdR e [] ⟨⟨#[]⟩, [a]⟩ = (z27, (argR e a).2) := by
      unfold cmdR
      dsimp only
      rw [ha2, if_neg h0]
    rw [hc, if_neg h0, if_neg h0]

/-! ### a pipe, cut ahead of its last command -/
theorem reckR_snoc (e : En) (c : Cm) : ∀ (ds : List Cm) (x : V), reckR e (ds ++ [c]) [x] x = if (reckR e ds [x] x).2 = 0 then reckR e [c] [(reckR e ds [x] x).1] (reckR e ds [x] x).1 else (z27, (reckR e ds [x] x).2)
  | [], x => rfl
  | d :: ds, x => by
    have e1 : ∀ l, reckR e (d :: l) [x] x = if (cmdR e [x] d).2 = 0 then reckR e l [(cmdR e [x] d).1] (cmdR e [x] d).1 else (z27, (cmdR e [x] d).2) := fun l => rfl
    rw [List.cons_append, e1, e1 ds]
    by_cases h : (cmdR e [x] d).2 = 0
    · rw [if_pos h, if_pos h]; exact reckR_snoc e c ds _
    · rw [if_neg h, if_neg h, if_neg h]
theorem reckR_cut (e : En) (c d : Cm) (ds : List Cm) (b : List V) (v : V) : reckR e ((d :: ds) ++ [c]) b v = if (reckR e (d :: ds) b v).2 = 0 then reckR e [c] [(reckR e (d :: ds) b v).1] (reckR e (d :: ds) b v).1 else (z27, (reckR e (d :: ds) b v).2) := by
  have e1 : ∀ l, reckR e (d :: l) b v = if (cmdR e b d).2 = 0 then reckR e l [(cmdR e b d).1] (cmdR e b d).1 else (z27, (cmdR e b d).2) := fun l => rfl
  rw [List.cons_append, e1, e1 ds]
  by_cases h : (cmdR e b d).2 = 0
  · rw [if_pos h, if_pos h]; exact reckR_snoc e c ds _
  · rw [if_neg h, if_neg h, if_neg h]
theorem reckR_last (e : En) (c : Cm) (b v : V) (hc : (c.f0.toList == ([] : List UInt8)) = false) : reckR e [c] [b] v = if (argsR e c.f1).2 = 0 then callR c.f0 ((argsR e c.f1).1 ++ [b]) else (z27, (argsR e c.f1).2) := by
  have e1 : reckR e [c] [b] v = if (cmdR e [b] c).2 = 0 then ((cmdR e [b] c).1, 0) else (z27, (cmdR e [b] c).2) := rfl
  have e2 : cmdR e [b] c = if (argsR e c.f1).2 = 0 then callR c.f0 ((argsR e c.f1).1 ++ [b]) else (z27, (argsR e c.f1).2) := by
    unfold cmdR
    rw [hc]
    rfl
  rw [e1, e2]
  by_cases h : (argsR e c.f1).2 = 0
  · rw [if_pos h]
    by_cases h2 : (callR c.f0 ((argsR e c.f1).1 ++ [b])).2 = 0
    · rw [if_pos h2]; exact Prod.ext rfl h2.symm
    · rw [if_neg h2]; exact Prod.ext (callR_err _ _ h2).symm rfl
  · rw [if_neg h, if_neg h]
theorem rows_all {p : List Cm} {e : En} (hm : Pipe.mayP p = true) (he : envB e = true) (n : Nat) (hn : p.length = n + 1) (h1 : 1 ≤ n) :
    n ≤ 7 ∧ (rd_T50 p (n : Int)).f1.length ≤ 8 ∧ (∀ a ∈ (rd_T50 p (n : Int)).f1, pipeR [⟨⟨#[]⟩, [a]⟩] e = if (argR e a).2 = 0 then ((argR e a).1, 0) else (z27, (argR e a).2)) ∧
    ((pipeR (p.take n) e).2 ≠ 0 → (pipeR p e).2 = (pipeR (p.take n) e).2) ∧
    ((pipeR (p.take n) e).2 = 0 → pipeR p e = if (argsR e (rd_T50 p (n : Int)).f1).2 = 0 then callR (rd_T50 p (n : Int)).f0 ((argsR e (rd_T50 p (n : Int)).f1).1 ++ [(pipeR (p.take n) e).1]) else (z27, (argsR e (rd_T50 p (n : Int)).f1).2)) := by
  have hd := Pipe.rd_C p n (by omega)
  have hd2 : p.drop (n + 1) = [] := List.drop_eq_nil_of_le (by omega)
  rw [hd2] at hd
  have hp : p.take n ++ [rd_T50 p (n : Int)] = p := by rw [← hd]; exact List.take_append_drop n p
  generalize rd_T50 p (n : Int) = c at *
  have hlt : (p.take n).length = n := by rw [List.length_take]; omega
  have hm' := hm
  unfold Pipe.mayP at hm'
  rw [Bool.and_eq_true, Bool.and_eq_true] at hm'
  have h8 := of_decide_eq_true hm'.1.2
  have hcs := hm'.2
  rw [← hp] at hcs
  obtain ⟨hc0, hc1⟩ := cmsB_snoc c _ true hcs
  have hne : (p.take n).isEmpty = false := by
    cases hq : p.take n with
    | nil => rw [hq] at hlt; simp at hlt; omega
    | cons x xs => rfl
  rw [hne, Bool.and_false] at hc1
  obtain ⟨hcf, hcl, hca⟩ := cm_last hc1
  have hm0 : Pipe.mayP (p.take n) = true := by
    unfold Pipe.mayP
    rw [hlt, decide_eq_true h1, decide_eq_true (show n ≤ 8 by omega), hc0]; rfl
  have hr0 : pipeR (p.take n) e = reckR e (p.take n) [] z27 := by unfold pipeR; rw [hm0, he]; rfl
  have hr : pipeR p e = reckR e (p.take n ++ [c]) [] z27 := by unfold pipeR; rw [hm, he, hp]; rfl
  have hcut : reckR e (p.take n ++ [c]) [] z27 = if (reckR e (p.take n) [] z27).2 = 0 then reckR e [c] [(reckR e (p.take n) [] z27).1] (reckR e (p.take n) [] z27).1 else (z27, (reckR e (p.take n) [] z27).2) := by
    cases hq : p.take n with
    | nil => rw [hq] at hlt; simp at hlt; omega
    | cons x xs => exact reckR_cut e c x xs [] z27
  rw [← hr0, ← hr] at hcut
  refine ⟨by omega, hcl, fun a ha => pipe_any a e (hca a ha) he, fun h => ?_, fun h => ?_⟩
  · rw [hcut, if_neg h]
  · rw [hcut, if_pos h, reckR_last e c _ _ hcf]
end Go.Proofs.YtdghnfmhcnlppaaGreatDoor.Eval
