/- Values, the plain laws: the program's Less, Same, Get answer as the reference's do. -/
import Derived.Test.YtoocfodefbechaaGreatDoorRefX
import Derived.Test.YtoocfodefbechaaGreatDoorRefG
import Derived.Test.YtoocfodefbechaaGreatDoorRefL
namespace Go.Proofs.YtoocfodefbechaaGreatDoor.PureV
open Go.RowKit Go.Proofs.YtoocfodefbechaaGreatDoor.Q Go.Proofs.YtoocfodefbechaaGreatDoor.Real Go.Proofs.YtoocfodefbechaaGreatDoor.RealPure Go.Proofs.YtoocfodefbechaaGreatDoor.Values Go.Proofs.YtoocfodefbechaaGreatDoorW.PrintWords Go.Proofs.YtoocfodefbechaaGreatDoorW.PrintLast Go.Proofs.YtoocfodefbechaaGreatDoorW.PrintMore
set_option linter.unusedSimpArgs false
set_option linter.unusedVariables false

/-! ### Less -/
theorem lt_place (a b : Nat) : floatLt a b = (!(nanB a) && !(nanB b) && decide (place a < place b)) := by
  unfold floatLt
  show (Ieee.double.order a b == some .lt) = _
  rw [order_words]
  by_cases h : (nanB a || nanB b) = true
  · rw [if_pos h]
    cases h1 : nanB a <;> cases h2 : nanB b <;> simp [h1, h2] at h ⊢ <;> rfl
  · rw [if_neg h]
    have h1 : nanB a = false := by cases h1 : nanB a <;> simp [h1] at h ⊢
    have h2 : nanB b = false := by cases h2 : nanB b <;> simp [h1, h2] at h ⊢
    rw [h1, h2]
    by_cases c : place a < place b
    · rw [decide_eq_true c]
      simp [compare, compareOfLessAndEq, c]
    · rw [decide_eq_false c]
      simp [compare, compareOfLessAndEq, c]
      split <;> decide
theorem kind_nan (b : Nat) : kindN b = 0 ↔ nanB b = true := by
  rw [kind_cases]
  cases h : nanB b <;> simp
  repeat' split
  all_goals omega
theorem nan_kind (b : Nat) : (kindN b != 0) = !(nanB b) := by
  have h := kind_nan b
  cases hn : nanB b
  · rw [hn] at h
    have h2 : kindN b ≠ 0 := fun e => by have := h.1 e; cases this
    simpa using h2
  · rw [hn] at h
    rw [h.2 rfl]; rfl
theorem less_eq (x y : V) : refLess x y = (lessB x y, lessE x y) := by
  unfold refLess lessB lessE
  rw [nan_kind, nan_kind, lt_place]
  cases mayB x <;> cases mayB y <;> simp
  refine kinds_of x.f0 _ fun b0 b1 b2 b3 b4 b5 b6 e0 e1 e2 e3 e4 e5 e6 hm => ?_
  cases hxy : (x.f0 == y.f0)
  · have : ¬ x.f0 = y.f0 := fun e => by rw [e] at hxy; simp at hxy
    simp [this]
  · have := eq_of_beq hxy
    simp only [beq_eq_false_iff_ne, beq_iff_eq, ← this] at *
    by_cases h2 : x.f0 = 2
    · simp [h2]
    by_cases h3 : x.f0 = 3
    · simp [h3, Bool.and_assoc]
    by_cases h4 : x.f0 = 4
    · simp [h4]
    · simp [h2, h3, h4]

/-! ### Same -/
theorem eqFrom_at (l l' : List ByteArray) : ∀ m i, eqFrom l l' m i = true ↔ ∀ j, i ≤ j → j < i + m → (l.getD j ByteArray.empty).toList = (l'.getD j ByteArray.empty).toList
  | 0, i => ⟨fun _ j h0 h1 => by omega, fun _ => rfl⟩
  | m + 1, i => by
    rw [show eqFrom l l' (m + 1) i = (((l.getD i ByteArray.empty).toList == (l'.getD i ByteArray.empty).toList) && eqFrom l l' m (i + 1)) from rfl, Bool.and_eq_true, beq_iff_eq, eqFrom_at l l' m (i + 1)]
    constructor
    · rintro ⟨h0, h1⟩ j j0 j1
      by_cases c : j = i
      · subst c; exact h0
      · exact h1 j (by omega) (by omega)
    · intro h
      exact ⟨h i (by omega) (by omega), fun j j0 j1 => h j (by omega) (by omega)⟩
theorem sameL_at (f : V → V → Bool) : ∀ (xs ys : List V), xs.length = ys.length → (sameL f xs ys = true ↔ ∀ j, j < xs.length → f (xs.getD j z27) (ys.getD j z27) = true)
  | [], [], _ => ⟨fun _ j h => by simp at h, fun _ => rfl⟩
  | x :: xs, y :: ys, hl => by
    rw [show sameL f (x :: xs) (y :: ys) = (f x y && sameL f xs ys) from rfl, Bool.and_eq_true, sameL_at f xs ys (by simpa using hl)]
    constructor
    · rintro ⟨h0, h1⟩ j hj
      cases j with
      | zero => exact h0
      | succ j => exact h1 j (by simpa using hj)
    · intro h
      exact ⟨h 0 (by simp), fun j hj => h (j + 1) (by simpa using hj)⟩
  | [], _ :: _, hl => by simp at hl
  | _ :: _, [], hl => by simp at hl
theorem loopS_at (f : V → V → Bool) (x y : V) : ∀ m i, loopS f x y m i = true ↔ ∀ j, i ≤ j → j < i + m → (f (rd_T27 x.f4 j) (rd_T27 y.f4 j) = true ∧ (j < x.f5.length → (x.f5.getD j ByteArray.empty).toList = (y.f5.getD j ByteArray.empty).toList))
  | 0, i => ⟨fun _ j h0 h1 => by omega, fun _ => rfl⟩
  | m + 1, i => by
    rw [show loopS f x y (m + 1) i = (f (rd_T27 x.f4 i) (rd_T27 y.f4 i) && (!(decide ((i : Int) < (x.f5.length : Int)) && !((x.f5.getD i ByteArray.empty).toList == (y.f5.getD i ByteArray.empty).toList)) && loopS f x y m (i + 1))) from rfl,
      Bool.and_eq_true, Bool.and_eq_true, loopS_at f x y m (i + 1)]
    have e : (!(decide ((i : Int) < (x.f5.length : Int)) && !((x.f5.getD i ByteArray.empty).toList == (y.f5.getD i ByteArray.empty).toList))) = true ↔ (i < x.f5.length → (x.f5.getD i ByteArray.empty).toList = (y.f5.getD i ByteArray.empty).toList) := by
      by_cases c : i < x.f5.length
      · have c' : (i : Int) < (x.f5.length : Int) := by omega
        simp [c, c']
      · have c' : ¬ (i : Int) < (x.f5.length : Int) := by omega
        simp [c, c']
    rw [e]
    constructor
    · rintro ⟨h0, h1, h2⟩ j j0 j1
      by_cases c : j = i
      · subst c; exact ⟨h0, h1⟩
      · exact h2 j (by omega) (by omega)
    · intro h
      exact ⟨(h i (by omega) (by omega)).1, (h i (by omega) (by omega)).2, fun j j0 j1 => h j (by omega) (by omega)⟩
theorem own_f5 {x : V} (h : ownB x = true) : x.f5.length = 0 ∨ x.f5.length = x.f4.length := by
  by_cases h6 : x.f0 = 6
  · exact .inr (keys_len h h6)
  · unfold ownB plainB at h
    simp only [Bool.and_eq_true, Bool.or_eq_true, beq_iff_eq] at h
    have := h.1.1.2.resolve_left h6
    omega
theorem own_real {x : V} (h : ownB x = true) (h3 : x.f0 = 3) : x.f1 = 0 ∧ x.f3.toList = [] ∧ x.f4.length = 0 ∧ x.f5.length = 0 := by
  unfold ownB plainB at h
  rw [h3] at h
  simp only [Bool.and_eq_true] at h
  have h1 := h.1.1
  simp at h1
  obtain ⟨⟨⟨h1, h2⟩, h4⟩, h5⟩ := h1
  exact ⟨h1, h2, by simp [h4], by simp [h5]⟩
theorem sameL_len (f : V → V → Bool) : ∀ xs ys, sameL f xs ys = true → xs.length = ys.length
  | [], [], _ => rfl
  | x :: xs, y :: ys, h => by
    rw [show sameL f (x :: xs) (y :: ys) = (f x y && sameL f xs ys) from rfl, Bool.and_eq_true] at h
    simp [sameL_len f xs ys h.2]
  | [], _ :: _, h => by cases h
  | _ :: _, [], h => by cases h
theorem getD_mem (l : List V) (j : Nat) (hj : j < l.length) : l.getD j z27 ∈ l := by
  rw [List.getD_eq_getElem?_getD, List.getElem?_eq_getElem hj]
  exact List.getElem_mem hj
theorem same_eq : ∀ (d : Nat) (x y : V), okG d x → okG d y → refS d x y = sameD d x y
  | 0, _, _, h, _ => h.elim
  | d + 1, x, y, h, h' => by
    obtain ⟨hx, ix⟩ := h
    obtain ⟨hy, iy⟩ := h'
    unfold refS sameD
    by_cases h0 : x.f0 = y.f0
    case neg => rw [beq_eq_false_iff_ne.2 h0]; rfl
    rw [beq_iff_eq.2 h0, Bool.true_and, if_pos rfl]
    by_cases h3 : x.f0 = 3
    · obtain ⟨x1, x3, x4, x5⟩ := own_real hx h3
      obtain ⟨y1, y3, y4, y5⟩ := own_real hy (h0 ▸ h3)
      rw [x1, x3, x4, x5, y1, y3, y4, y5, h3]
      simp only [beq_self_eq_true, Bool.true_and, if_true]
      unfold sameRealB
      by_cases e : x.f2 = y.f2
      · rw [e]; simp
      · rw [beq_eq_false_iff_ne.2 e, Bool.false_or, Bool.false_or]
        generalize kindN x.f2.toNat = p
        generalize kindN y.f2.toNat = q
        rw [Bool.eq_iff_iff]
        simp
        omega
    · rw [beq_eq_false_iff_ne.2 h3]
      simp only [Bool.false_eq_true, if_false]
      rw [Bool.eq_iff_iff]
      unfold equalB
      simp only [Bool.and_eq_true, decide_eq_true_eq, beq_iff_eq, loopS_at, eqFrom_at]
      have key : x.f4.length = y.f4.length → (sameL (sameD d) x.f4 y.f4 = true ↔ ∀ j, j < x.f4.length → refS d (x.f4.getD j z27) (y.f4.getD j z27) = true) := by
        intro hl
        rw [sameL_at _ _ _ hl]
        constructor
        · intro h j hj; rw [same_eq d _ _ (ix _ (getD_mem _ _ hj)) (iy _ (getD_mem _ _ (by omega)))]; exact h j hj
        · intro h j hj; rw [← same_eq d _ _ (ix _ (getD_mem _ _ hj)) (iy _ (getD_mem _ _ (by omega)))]; exact h j hj
      have k5 := own_f5 hx
      constructor
      · rintro ⟨f1, f3, l4, l5, hl⟩
        refine ⟨⟨⟨f1, f3⟩, by omega, fun j j0 j1 => (hl j j0 (by omega)).2 (by omega)⟩, (key (by omega)).2 fun j hj => (hl j (by omega) (by omega)).1⟩
      · rintro ⟨⟨⟨f1, f3⟩, l5, hk⟩, hl⟩
        have l4 := sameL_len _ _ _ hl
        exact ⟨f1, f3, by omega, by omega, fun j j0 j1 => ⟨(key l4).1 hl j (by omega), fun j5 => hk j j0 (by omega)⟩⟩

/-! ### Get -/
theorem keys_at (l : List ByteArray) : ∀ m i, keysFrom l m i = true → ∀ j, i ≤ j → j < i + m → okAt l j = true
  | 0, i, _, j, h0, h1 => by omega
  | m + 1, i, h, j, h0, h1 => by
    rw [show keysFrom l (m + 1) i = (okAt l i && keysFrom l m (i + 1)) from rfl, Bool.and_eq_true] at h
    by_cases c : j = i
    · subst c; exact h.1
    · exact keys_at l m (i + 1) h.2 j (by omega) (by omega)
theorem own_six {x : V} (h : ownB x = true) (h6 : x.f0 = 6) : keysB x.f5 = true ∧ x.f5.length = x.f4.length ∧ x.f4.length ≤ 64 := by
  refine ⟨?_, keys_len h h6, ?_⟩
  · unfold ownB at h
    simp only [Bool.and_eq_true] at h
    have h2 := h.2
    rw [h6] at h2
    simp at h2
    exact h2.2
  · unfold ownB at h
    simp only [Bool.and_eq_true, decide_eq_true_eq] at h
    exact h.1.2
theorem same_may (x y : V) : (mayB x && (mayB y && refS 8 x y)) = (mayB x && mayB y && sameD 8 x y) := by
  cases hx : mayB x
  · rfl
  cases hy : mayB y
  · rfl
  rw [same_eq 8 x y (okG_of_may 8 x 1024 hx) (okG_of_may 8 y 1024 hy)]
  rfl
end Go.Proofs.YtoocfodefbechaaGreatDoor.PureV
