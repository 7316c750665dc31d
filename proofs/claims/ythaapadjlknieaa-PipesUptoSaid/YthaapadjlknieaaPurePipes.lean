/- The law Pipes, in plain words: SamePipe of equal pipes; the document's PipeMay; the sizes of what is read. -/
import Derived.Test.YthaapadjlknieaaPipeCopy
import Derived.Test.YthaapadjlknieaaQ3
import Derived.Test.YthaapadjlknieaaPipeSpoil
namespace Go.Proofs.Ythaapadjlknieaa.Pure
open Go.RowKit Go.Proofs.Ythaapadjlknieaa.Q Go.Proofs.Ythaapadjlknieaa.Pipe Go.Proofs.YthaapadjlknieaaW.PrintWords Go.Proofs.YthaapadjlknieaaW.PrintLast Go.Proofs.YthaapadjlknieaaW.PrintMore
/-! ### SamePipe of equal pipes -/
theorem texts_le {a b : List ByteArray} {i : Int} {k : Nat} {r} (h : stolelaw0_SameTexts.l0 k a b i = some r) : ∀ m, stolelaw0_SameTexts.l0 (k + m) a b i = some r
  | 0 => h
  | m + 1 => (stolelaw0_SameTexts.mono_l (k + m)) a b i _ (texts_le h m)
theorem texts_loop (l : List ByteArray) (hl : l.length ≤ 1048576) : ∀ m i, i + m = l.length → stolelaw0_SameTexts.l0 (m + 1) l l (i : Int) = some true
  | 0, i, h => by
    unfold stolelaw0_SameTexts.l0
    rw [if_neg (by omega)]
  | m + 1, i, h => by
    have ih := texts_loop l hl m (i + 1) (by omega)
    have e2 : wrap64 ((i : Int) + 1) = ((i + 1 : Nat) : Int) := by rw [Pipe.wrap_small ((i : Int) + 1) (by omega) (by omega)]; rfl
    unfold stolelaw0_SameTexts.l0
    rw [if_pos (by omega), if_pos (by omega), if_pos (by omega), if_pos rfl, e2]
    exact ih
theorem texts_same (l : List ByteArray) (hl : l.length ≤ 1048576) (m : Nat) : stolelaw0_SameTexts.f (l.length + 1 + m) l l = some true := by
  unfold stolelaw0_SameTexts.f
  rw [if_pos rfl]
  exact texts_le (texts_loop l hl l.length 0 (by omega)) m
theorem same1_le {a b : List Cm} {i j : Int} {k : Nat} {r} (h : stolelaw0_SamePipe.l1 k a b i j = some r) : ∀ m, stolelaw0_SamePipe.l1 (k + m) a b i j = some r
  | 0 => h
  | m + 1 => (stolelaw0_SamePipe.mono_l (k + m)).2.2.1 a b i j _ (same1_le h m)
theorem same_args (p : List Cm) (i : Nat) (hi : i < p.length) (hp : p.length ≤ 1048577) (x : Cm) (hx : rd_T38 p (i : Int) = x) (hs : sizedC x) (h0 : ∃ k, stolelaw0_SamePipe.l0 k p p ((i + 1 : Nat) : Int) = some true) :
    ∀ m j, j + m = x.f1.length → ∃ k, stolelaw0_SamePipe.l1 k p p (i : Int) (j : Int) = some true
  | 0, j, h => by
    obtain ⟨k, hk⟩ := h0
    refine ⟨k + 1, ?_⟩
    have e2 : wrap64 ((i : Int) + 1) = ((i + 1 : Nat) : Int) := by rw [Pipe.wrap_small ((i : Int) + 1) (by omega) (by omega)]; rfl
    unfold stolelaw0_SamePipe.l1
    rw [if_pos (by omega), if_pos (by omega), hx, if_neg (by omega), e2]
    exact hk
  | m + 1, j, h => by
    obtain ⟨k, ih⟩ := same_args p i hi hp x hx hs h0 m (j + 1) (by omega)
    have hj : j < x.f1.length := by omega
    have hs1 := hs.1
    have hd : x.f1.drop j = rd_T41 x.f1 (j : Int) :: x.f1.drop (j + 1) := rd_A x.f1 j hj
    have hm : (rd_T41 x.f1 (j : Int)).f2.length ≤ 1048576 := by
      refine hs.2 _ ?_
      have : rd_T41 x.f1 (j : Int) ∈ x.f1.drop j := by rw [hd]; exact List.mem_cons_self
      exact List.mem_of_mem_drop this
    have e2 : wrap64 ((j : Int) + 1) = ((j + 1 : Nat) : Int) := by rw [Pipe.wrap_small ((j : Int) + 1) (by omega) (by omega)]; rfl
    have h3 := same1_le ih ((rd_T41 x.f1 (j : Int)).f2.length + 1)
    have ht := texts_same (rd_T41 x.f1 (j : Int)).f2 hm (k + 1)
    obtain ⟨K, hK⟩ : ∃ K, k + ((rd_T41 x.f1 (j : Int)).f2.length + 1) = K := ⟨_, rfl⟩
    have hK2 : (rd_T41 x.f1 (j : Int)).f2.length + 1 + (k + 1) = K + 1 := by omega
    rw [hK] at h3
    rw [hK2] at ht
    refine ⟨K + 1 + 1, ?_⟩
    unfold stolelaw0_SamePipe.l1
    rw [if_pos (by omega), if_pos (by omega), hx, if_pos (by omega), if_pos (by omega), if_pos (by omega), if_pos (by omega), if_pos rfl, if_pos rfl, if_pos rfl, if_pos rfl, bindC _ _ _ ht]
    unfold stolelaw0_SamePipe.j3
    rw [if_neg (by decide), e2]
    exact h3
theorem same_cmds (p : List Cm) (hp : p.length ≤ 1048577) (hs : ∀ x ∈ p, sizedC x) : ∀ m i, i + m = p.length → ∃ k, stolelaw0_SamePipe.l0 k p p (i : Int) = some true
  | 0, i, h => ⟨1, by
    unfold stolelaw0_SamePipe.l0
    rw [if_neg (by omega)]⟩
  | m + 1, i, h => by
    have hi : i < p.length := by omega
    have hd := rd_C p i hi
    have hm : rd_T38 p (i : Int) ∈ p := by
      have : rd_T38 p (i : Int) ∈ p.drop i := by rw [hd]; exact List.mem_cons_self
      exact List.mem_of_mem_drop this
    obtain ⟨k, hk⟩ := same_args p i hi hp _ rfl (hs _ hm) (same_cmds p hp hs m (i + 1) (by omega)) (rd_T38 p (i : Int)).f1.length 0 (by omega)
    refine ⟨k + 1 + 1, ?_⟩
    unfold stolelaw0_SamePipe.l0
    rw [if_pos (by omega), if_pos (by omega), if_pos (by omega), if_pos rfl]
    unfold stolelaw0_SamePipe.j1
    rw [if_neg (by simp)]
    exact hk
theorem same_total (p : List Cm) (hp : p.length ≤ 1048577) (hs : ∀ x ∈ p, sizedC x) : ∃ k, stolelaw0_SamePipe.f k p p = some true := by
  obtain ⟨k, h⟩ := same_cmds p hp hs p.length 0 (by omega)
  refine ⟨k, ?_⟩
  unfold stolelaw0_SamePipe.f
  rw [if_pos rfl]
  exact h
/-! ### the document's PipeMay -/
theorem argMay_f (k : Nat) (a : Ag) : stoleref13_argMay.f k a.f0 a.f1 a.f2 a.f3 a.f4 = stoleref13_argMay.j0 k ((a.f0 != 3 && a.f4.toList != []) || (a.f0 != 1 && a.f1.toList != []) || (a.f0 != 2 && a.f0 != 4 && a.f3 != 0) || (a.f0 != 0 && a.f0 != 1 && !a.f2.isEmpty)) a.f0 a.f1 a.f2 a.f3 a.f4 := by
  obtain ⟨f0, f1, f2, f3, f4⟩ := a
  have hd : decide ((f2.length : Int) > 0) = !f2.isEmpty := by cases f2 <;> simp <;> omega
  show stoleref13_argMay.f k f0 f1 f2 f3 f4 = stoleref13_argMay.j0 k ((f0 != 3 && f4.toList != []) || (f0 != 1 && f1.toList != []) || (f0 != 2 && f0 != 4 && f3 != 0) || (f0 != 0 && f0 != 1 && !f2.isEmpty)) f0 f1 f2 f3 f4
  unfold stoleref13_argMay.f
  rw [hd]
  generalize f2.isEmpty = e2
  clear hd
  have q4 : (f4.toList != []) = !decide (f4.toList = []) := by by_cases h : f4.toList = [] <;> simp [h]
  have q1 : (f1.toList != []) = !decide (f1.toList = []) := by by_cases h : f1.toList = [] <;> simp [h]
  have q3 : (f3 != 0) = !decide (f3 = 0) := by by_cases h : f3 = 0 <;> simp [h]
  rw [q4, q1, q3]
  by_cases c3 : f0 = 3
  · subst c3
    by_cases h1 : f1.toList = [] <;> by_cases h3 : f3 = 0 <;> simp [h1, h3]
  by_cases c1 : f0 = 1
  · subst c1
    by_cases h4 : f4.toList = [] <;> by_cases h3 : f3 = 0 <;> simp [h4, h3]
  by_cases c2 : f0 = 2
  · subst c2
    by_cases h4 : f4.toList = [] <;> by_cases h1 : f1.toList = [] <;> by_cases h3 : f3 = 0 <;> simp [h1, h4, h3]
  by_cases c4 : f0 = 4
  · subst c4
    by_cases h4 : f4.toList = [] <;> by_cases h1 : f1.toList = [] <;> by_cases h3 : f3 = 0 <;> simp [h1, h4, h3]
  by_cases c0 : f0 = 0
  · subst c0
    by_cases h4 : f4.toList = [] <;> by_cases h1 : f1.toList = [] <;> by_cases h3 : f3 = 0 <;> simp [h1, h4, h3]
  have d3 : (f0 != 3) = true := bne_iff_ne.2 c3
  have d1 : (f0 != 1) = true := bne_iff_ne.2 c1
  have d2 : (f0 != 2) = true := bne_iff_ne.2 c2
  have d4 : (f0 != 4) = true := bne_iff_ne.2 c4
  have d0 : (f0 != 0) = true := bne_iff_ne.2 c0
  rw [d3, d1, d2, d4, d0]
  simp only [if_neg c3, if_neg c1, if_neg c2, if_neg c4, if_neg c0, Bool.true_and]
  by_cases h4 : f4.toList = [] <;> by_cases h1 : f1.toList = [] <;> by_cases h3 : f3 = 0 <;> simp [h1, h4, h3]
/-- Sizes that PipeMay bears. -/
def sizedM (c : Cm) : Prop := sizedC c ∧ ∀ a ∈ c.f1, a.f1.size ≤ 1048576 ∧ ∀ s ∈ a.f2, s.size ≤ 1048576
theorem argMay_j0 (k : Nat) (b : Bool) (n : Int) (x y z w) : stoleref13_argMay.j0 (k + 1) b n x y z w = if b = true then some false else stoleref13_argMay.j1 k n (n == 0 || n == 5) n x y z w := by
  unfold stoleref13_argMay.j0
  by_cases h : n = 0
  · subst h; rfl
  · have h0 : (n == 0) = false := beq_eq_false_iff_ne.2 h
    show (if b = true then some false else if n = 0 then stoleref13_argMay.j1 k n (n == 0) n x y z w else stoleref13_argMay.j1 k n (n == 5) n x y z w) = _
    rw [if_neg h, h0, Bool.false_or]
theorem argMay_j1 (k : Nat) (b : Bool) (n m : Int) (x y z w) : stoleref13_argMay.j1 (k + 1) m b n x y z w = (if b = true then ((stoleref13_pathMay.f k y).bind fun t => some t) else if m = 1 then ((stoleref13_NameMay.f k x).bind fun t => if t = true then ((stoleref13_pathMay.f k y).bind fun t => some t) else some false) else if m = 2 then (if z ≥ (-9007199254740991) then some (decide (z ≤ 9007199254740991)) else some false) else if m = 3 then some (decide ((w.size : Int) ≤ 65536)) else if m = 4 then (if z = 0 then some true else some (z == 1)) else some false) := by
  unfold stoleref13_argMay.j1
  rfl
theorem argMay_total (a : Ag) (hl : a.f2.length ≤ 1048576) (h1 : a.f1.size ≤ 1048576) (h2 : ∀ s ∈ a.f2, s.size ≤ 1048576) : ∃ k0, ∀ k, stoleref13_argMay.f (k0 + k) a.f0 a.f1 a.f2 a.f3 a.f4 = some (amR a) := by
  obtain ⟨kp, hp⟩ := rpath_f a.f2 (by omega) (fun s hs => by have := h2 s hs; omega)
  refine ⟨kp + (2 * a.f1.size + 3) + 2, fun k => ?_⟩
  obtain ⟨K, hK⟩ : ∃ K, kp + (2 * a.f1.size + 3) + k = K := ⟨_, rfl⟩
  have e : kp + (2 * a.f1.size + 3) + 2 + k = K + 1 + 1 := by omega
  have hpK : stoleref13_pathMay.f K a.f2 = some (pathB a.f2) := by have := rpath_le hp ((2 * a.f1.size + 3) + k); rw [show kp + (2 * a.f1.size + 3 + k) = K by omega] at this; exact this
  have hnK : stoleref13_NameMay.f K a.f1 = some (nameB a.f1) := rname_f a.f1 (by omega) K (by omega)
  rw [e, argMay_f]
  rw [argMay_j0, argMay_j1]
  unfold amR
  split
  · rfl
  · rw [bindC _ _ _ hpK, bindC _ _ _ hnK]
    have hsz : decide ((a.f4.size : Int) ≤ 65536) = decide (a.f4.toList.length ≤ 65536) := by rw [toList_length]; exact decide_eq_decide.2 (by omega)
    rw [hsz]
    by_cases c0 : a.f0 = 0
    · simp [c0]
    by_cases c5 : a.f0 = 5
    · simp [c5]
    have d5 : (a.f0 == 5) = false := beq_eq_false_iff_ne.2 c5
    have d0 : (a.f0 == 0) = false := beq_eq_false_iff_ne.2 c0
    rw [d0, d5, if_neg (show ¬ ((false || false) = true) by decide), if_neg (show ¬ (a.f0 = 0 ∨ a.f0 = 5) from fun h => h.elim c0 c5)]
    by_cases c1 : a.f0 = 1
    · rw [if_pos c1, if_pos c1]
      cases nameB a.f1 <;> rfl
    rw [if_neg c1, if_neg c1]
    by_cases c2 : a.f0 = 2
    · rw [if_pos c2, if_pos c2]
      unfold intB
      by_cases g : a.f3 ≥ -9007199254740991
      · rw [if_pos g]
        have : decide (-9007199254740991 ≤ a.f3) = true := decide_eq_true g
        rw [this, Bool.true_and]
      · rw [if_neg g]
        have : decide (-9007199254740991 ≤ a.f3) = false := decide_eq_false g
        rw [this, Bool.false_and]
    rw [if_neg c2, if_neg c2]
    by_cases c3 : a.f0 = 3
    · rw [if_pos c3, if_pos c3]
    rw [if_neg c3, if_neg c3]
    by_cases c4 : a.f0 = 4
    · rw [if_pos c4, if_pos c4]
      by_cases g : a.f3 = 0
      · rw [if_pos g, g]; rfl
      · rw [if_neg g]
        have : (a.f3 == 0) = false := beq_eq_false_iff_ne.2 g
        rw [this, Bool.false_or]
    rw [if_neg c4, if_neg c4]
theorem may1_le {a : List Cm} {i j : Int} {k : Nat} {r} (h : stoleref13_PipeMay.l1 k a i j = some r) : ∀ m, stoleref13_PipeMay.l1 (k + m) a i j = some r
  | 0 => h
  | m + 1 => (stoleref13_PipeMay.mono_l (k + m)).2.2 a i j _ (may1_le h m)
theorem may_args (p : List Cm) (i : Nat) (hi : i < p.length) (hp : p.length ≤ 1048577) (x : Cm) (hx : rd_T38 p (i : Int) = x) (hs : sizedM x) {r : Bool} (h0 : ∃ k, stoleref13_PipeMay.l0 k p ((i + 1 : Nat) : Int) = some r) :
    ∀ m j, j + m = x.f1.length → ∃ k, stoleref13_PipeMay.l1 k p (i : Int) (j : Int) = some ((x.f1.drop j).all amR && r)
  | 0, j, h => by
    obtain ⟨k, hk⟩ := h0
    refine ⟨k + 1, ?_⟩
    have e2 : wrap64 ((i : Int) + 1) = ((i + 1 : Nat) : Int) := by rw [Pipe.wrap_small ((i : Int) + 1) (by omega) (by omega)]; rfl
    unfold stoleref13_PipeMay.l1
    rw [if_pos (by omega), if_pos (by omega), hx, if_neg (by omega), e2, List.drop_eq_nil_of_le (by omega)]
    exact hk
  | m + 1, j, h => by
    obtain ⟨k, ih⟩ := may_args p i hi hp x hx hs h0 m (j + 1) (by omega)
    have hj : j < x.f1.length := by omega
    have hs1 := hs.1.1
    have hd : x.f1.drop j = rd_T41 x.f1 (j : Int) :: x.f1.drop (j + 1) := rd_A x.f1 j hj
    have hm : rd_T41 x.f1 (j : Int) ∈ x.f1 := by
      have : rd_T41 x.f1 (j : Int) ∈ x.f1.drop j := by rw [hd]; exact List.mem_cons_self
      exact List.mem_of_mem_drop this
    have e2 : wrap64 ((j : Int) + 1) = ((j + 1 : Nat) : Int) := by rw [Pipe.wrap_small ((j : Int) + 1) (by omega) (by omega)]; rfl
    obtain ⟨k0, hk0⟩ := argMay_total _ (hs.1.2 _ hm) (hs.2 _ hm).1 (hs.2 _ hm).2
    have h3 := may1_le ih k0
    have ht := hk0 k
    rw [Nat.add_comm k0 k] at ht
    obtain ⟨K, hK⟩ : ∃ K, k + k0 = K := ⟨_, rfl⟩
    rw [hK] at h3 ht
    refine ⟨K + 1, ?_⟩
    unfold stoleref13_PipeMay.l1
    rw [if_pos (by omega), if_pos (by omega), hx, if_pos (by omega), if_pos (by omega), bindC _ _ _ ht, e2, hd, List.all_cons]
    generalize amR (rd_T41 x.f1 (j : Int)) = q
    cases q with
    | true => rw [if_pos rfl, Bool.true_and]; exact h3
    | false => rfl
theorem may_l0 (p : List Cm) (i : Int) (k : Nat) (h0 : 0 ≤ i) (h1 : i < (p.length : Int)) : stoleref13_PipeMay.l0 (k + 40 + 1 + 1) p i = if ((!fnB (rd_T38 p i).f0 && ((rd_T38 p i).f0.toList != [] || decide (0 < i) || (rd_T38 p i).f1.length != 1)) || decide (8 < (rd_T38 p i).f1.length)) = true then some false else stoleref13_PipeMay.l1 (k + 40) p i 0 := by
  have hf := rfn_f (rd_T38 p i).f0 (k + 1)
  rw [show k + 1 + 40 = k + 40 + 1 by omega] at hf
  have hj : ∀ b, stoleref13_PipeMay.j1 (k + 40 + 1) p i b = if b = true then some false else stoleref13_PipeMay.l1 (k + 40) p i 0 := fun b => by unfold stoleref13_PipeMay.j1; rfl
  unfold stoleref13_PipeMay.l0
  rw [if_pos h1, if_pos h0, bindC _ _ _ hf]
  simp only [hj]
  generalize stoleref13_PipeMay.l1 (k + 40) p i 0 = R
  have hlen : decide (((rd_T38 p i).f1.length : Int) > 8) = decide (8 < (rd_T38 p i).f1.length) := decide_eq_decide.2 (by omega)
  rw [hlen]
  generalize fnB (rd_T38 p i).f0 = b0
  generalize (rd_T38 p i).f1.length = n
  generalize (rd_T38 p i).f0.toList = s
  generalize decide (8 < n) = b8
  cases b0 with
  | true => rw [if_pos rfl]; rfl
  | false =>
    rw [if_neg (by decide)]
    by_cases hs : s = []
    · subst hs
      rw [if_pos rfl]
      by_cases h3 : i > 0
      · rw [if_pos h3, decide_eq_true (p := 0 < i) h3]; simp
      · rw [if_neg h3, decide_eq_false (p := 0 < i) h3]
        by_cases h4 : n = 1
        · subst h4; simp
        · have h5 : ¬ ((n : Int) = 1) := by omega
          have h6 : (n != 1) = true := bne_iff_ne.2 h4
          rw [if_neg h5, h6]; simp
    · have h6 : (s != []) = true := bne_iff_ne.2 hs
      rw [if_neg hs, h6]; simp
theorem may_cmds (p : List Cm) (hp : p.length ≤ 1048577) (hs : ∀ x ∈ p, sizedM x) : ∀ m i, i + m = p.length → ∃ k, stoleref13_PipeMay.l0 k p (i : Int) = some (cmsR (decide (i = 0)) (p.drop i) && (decide (1 ≤ p.length) && decide (p.length ≤ 8)))
  | 0, i, h => ⟨1, by
    unfold stoleref13_PipeMay.l0
    rw [if_neg (by omega), List.drop_eq_nil_of_le (by omega)]
    unfold cmsR
    rw [Bool.true_and]
    by_cases c : 1 ≤ p.length
    · have c8 : decide ((p.length : Int) ≤ 8) = decide (p.length ≤ 8) := decide_eq_decide.2 (by omega)
      rw [if_pos (by omega), decide_eq_true c, Bool.true_and, c8]
    · rw [if_neg (by omega), decide_eq_false c, Bool.false_and]⟩
  | m + 1, i, h => by
    have hi : i < p.length := by omega
    have hd := rd_C p i hi
    have hm : rd_T38 p (i : Int) ∈ p := by
      have : rd_T38 p (i : Int) ∈ p.drop i := by rw [hd]; exact List.mem_cons_self
      exact List.mem_of_mem_drop this
    obtain ⟨k, hk⟩ := may_args p i hi hp _ rfl (hs _ hm) (may_cmds p hp hs m (i + 1) (by omega)) (rd_T38 p (i : Int)).f1.length 0 (by omega)
    rw [List.drop_zero] at hk
    refine ⟨k + 40 + 1 + 1, ?_⟩
    rw [may_l0 p (i : Int) k (by omega) (by omega), hd]
    have h3 := may1_le hk 40
    have e0 : decide (i + 1 = 0) = false := decide_eq_false (by omega)
    have e1 : decide (0 < (i : Int)) = !decide (i = 0) := by by_cases c : i = 0 <;> simp [c] <;> omega
    rw [e0] at h3
    show _ = some ((cmR (decide (i = 0)) (rd_T38 p (i : Int)) && cmsR false (p.drop (i + 1))) && _)
    unfold cmR
    rw [e1]
    generalize (!fnB (rd_T38 p (i : Int)).f0 && ((rd_T38 p (i : Int)).f0.toList != [] || !decide (i = 0) || (rd_T38 p (i : Int)).f1.length != 1) || decide (8 < (rd_T38 p (i : Int)).f1.length)) = X
    cases X with
    | true => rfl
    | false =>
      rw [if_neg (by decide), Bool.not_false, Bool.true_and, Bool.and_assoc]
      exact h3
/-- The document's PipeMay says what the program's May says. -/
theorem pmay_total (p : List Cm) (hp : p.length ≤ 1048577) (hs : ∀ x ∈ p, sizedM x) : ∃ k, stoleref13_PipeMay.f k p = some (mayP p) := by
  obtain ⟨k, h⟩ := may_cmds p hp hs p.length 0 (by omega)
  refine ⟨k, ?_⟩
  unfold stoleref13_PipeMay.f
  have h2 : stoleref13_PipeMay.l0 k p ((0 : Nat) : Int) = some (mayR p) := h
  rw [may_ref] at h2
  exact h2
/-! ### what Parse reads is small -/
theorem cmsB_all : ∀ {b : Bool} {p : List Cm}, cmsB b p = true → ∀ c ∈ p, ∃ b2, cmB b2 c = true
  | b, c :: cs, h, x, hx => by
    unfold cmsB at h
    rw [Bool.and_eq_true] at h
    cases List.mem_cons.1 hx with
    | inl e => exact ⟨b, e ▸ h.1⟩
    | inr e => exact cmsB_all h.2 x e
theorem may_sized {p : List Cm} (h : mayP p = true) : p.length ≤ 8 ∧ ∀ c ∈ p, c.f0.size ≤ 32 ∧ c.f1.length ≤ 8 ∧ ∀ a ∈ c.f1, a.f2.length ≤ 8 ∧ ∀ s ∈ a.f2, s.size ≤ 32 := by
  refine ⟨may_len h, fun c hc => ?_⟩
  unfold mayP at h
  rw [Bool.and_eq_true] at h
  obtain ⟨b, hb⟩ := cmsB_all h.2 c hc
  unfold cmB at hb
  rw [Bool.and_eq_true, Bool.and_eq_true, Bool.or_eq_true] at hb
  obtain ⟨⟨h0, h1⟩, h2⟩ := hb
  refine ⟨?_, of_decide_eq_true h1, fun a ha => ?_⟩
  · rw [← toList_length]
    cases h0 with
    | inl e => rw [Bool.and_eq_true, Bool.and_eq_true] at e; rw [eq_of_beq e.1.1]; exact Nat.zero_le _
    | inr e => exact name_len (fn_name e)
  · have hA := List.all_eq_true.1 h2 a ha
    unfold amB at hA
    rw [Bool.and_eq_true] at hA
    have hp := hA.2
    rw [Bool.and_eq_true, Bool.and_eq_true] at hp
    have hq := hp.1.1
    unfold pathB at hq
    rw [Bool.and_eq_true] at hq
    exact ⟨of_decide_eq_true hq.1, fun s hs => by rw [← toList_length]; exact name_len (List.all_eq_true.1 hq.2 s hs)⟩
theorem parse_small (ws : List Wd) : (parseR ws).1.length ≤ 8 ∧ ∀ c ∈ (parseR ws).1, c.f0.size ≤ 32 ∧ c.f1.length ≤ 8 ∧ ∀ a ∈ c.f1, a.f2.length ≤ 8 ∧ ∀ s ∈ a.f2, s.size ≤ 32 := by
  cases parse_err ws with
  | inl e => exact may_sized (parse_may (Prod.ext rfl e))
  | inr e => rw [e.1]; exact ⟨Nat.zero_le _, fun c hc => by cases hc⟩
theorem parse_sizedC (ws : List Wd) : ∀ c ∈ (parseR ws).1, sizedC c := fun c hc => by
  obtain ⟨_, h⟩ := parse_small ws
  obtain ⟨_, h1, h2⟩ := h c hc
  exact ⟨by omega, fun a ha => by have := (h2 a ha).1; omega⟩
theorem parse_sizedP (ws : List Wd) : sizedP 1048576 (parseR ws).1 := fun c hc => by
  obtain ⟨_, h⟩ := parse_small ws
  obtain ⟨h0, h1, h2⟩ := h c hc
  exact ⟨by omega, fun a ha s hs => by have := (h2 a ha).2 s hs; omega⟩
end Go.Proofs.Ythaapadjlknieaa.Pure
