/- Values, the plain laws: the program's Less, Same, Get answer as the reference's do. -/
import Derived.Test.YtepolmajebdphaaDoorRefX
import Derived.Test.YtepolmajebdphaaDoorRefG
import Derived.Test.YtepolmajebdphaaDoorRefL
namespace Go.Proofs.YtepolmajebdphaaDoor.PureV
open Go.RowKit Go.Proofs.YtepolmajebdphaaDoor.Q Go.Proofs.YtepolmajebdphaaDoor.Real Go.Proofs.YtepolmajebdphaaDoor.RealPure Go.Proofs.YtepolmajebdphaaDoor.Values Go.Proofs.YtepolmajebdphaaDoorW.PrintWords Go.Proofs.YtepolmajebdphaaDoorW.PrintLast Go.Proofs.YtepolmajebdphaaDoorW.PrintMore
set_option linter.unusedSimpArgs false
set_option linter.unusedVariables false

/-! ### Less -/
theorem lt_place (a b : Nat) : floatLt a b = (!(nanB a) && !(nanB b) && decide (place a < place b)) := by
  unfold floatLt
  show (Ieee.double.order a b == some .lt) = _
  rw [order_words]
  by_cases h : (nanB a || nanB b) = true
  · rw [if_pos h]
    cases h1 : nanB a <;> cases h2 : nanB b <;> simp [h1, h2] at h ⊢ <;> rfl
  · rw [if_neg h]
    have h1 : nanB a = false := by cases h1 : nanB a <;> simp [h1] at h ⊢
    have h2 : nanB b = false := by cases h2 : nanB b <;> simp [h1, h2] at h ⊢
    rw [h1, h2]
    by_cases c : place a < place b
    · rw [decide_eq_true c]
      simp [compare, compareOfLessAndEq, c]
    · rw [decide_eq_false c]
      simp [compare, compareOfLessAndEq, c]
      split <;> decide
theorem kind_nan (b : Nat) : kindN b = 0 ↔ nanB b = true := by
  rw [kind_cases]
  cases h : nanB b <;> simp
  repeat' split
  all_goals omega
theorem nan_kind (b : Nat) : (kindN b != 0) = !(nanB b) := by
  have h := kind_nan b
  cases hn : nanB b
  · rw [hn] at h
    have h2 : kindN b ≠ 0 := fun e => by have := h.1 e; cases this
    simpa using h2
  · rw [hn] at h
    rw [h.2 rfl]; rfl
theorem less_eq (x y : V) : refLess x y = (lessB x y, lessE x y) := by
  unfold refLess lessB lessE
  rw [nan_kind, nan_kind, lt_place]
  cases mayB x <;> cases mayB y <;> simp
  refine kinds_of x.f0 _ fun b0 b1 b2 b3 b4 b5 b6 e0 e1 e2 e3 e4 e5 e6 hm => ?_
  cases hxy : (x.f0 == y.f0)
  · have : ¬ x.f0 = y.f0 := fun e => by rw [e] at hxy; simp at hxy
    simp [this]
  · have := eq_of_beq hxy
    simp only [beq_eq_false_iff_ne, beq_iff_eq, ← this] at *
    by_cases h2 : x.f0 = 2
    · simp [h2]
    by_cases h3 : x.f0 = 3
    · simp [h3, Bool.and_assoc]
    by_cases h4 : x.f0 = 4
    · simp [h4]
    · simp [h2, h3, h4]

/-! ### Same -/
theorem eqFrom_at (l l' : List ByteArray) : ∀ m i, eqFrom l l' m i = true ↔ ∀ j, i ≤ j → j < i + m → (l.getD j ByteArray.empty).toList = (l'.getD j ByteArray.empty).toList
  | 0, i => ⟨fun _ j h0 h1 => by omega, fun _ => rfl⟩
  | m + 1, i => by
    rw [show eqFrom l l' (m + 1) i = (((l.getD i ByteArray.empty).toList == (l'.getD i ByteArray.empty).toList) && eqFrom l l' m (i + 1)) from rfl, Bool.and_eq_true, beq_iff_eq, eqFrom_at l l' m (i + 1)]
    constructor
    · rintro ⟨h0, h1⟩ j j0 j1
      by_cases c : j = i
      · subst c; exact h0
      · exact h1 j (by omega) (by omega)
    · intro h
      exact ⟨h i (by omega) (by omega), fun j j0 j1 => h j (by omega) (by omega)⟩
theorem sameL_at (f : V → V → Bool) : ∀ (xs ys : List V), xs.length = ys.length → (sameL f xs ys = true ↔ ∀ j, j < xs.length → f (xs.getD j z26) (ys.getD j z26) = true)
  | [], [], _ => ⟨fun _ j h => by simp at h, fun _ => rfl⟩
  | x :: xs, y :: ys, hl => by
    rw [show sameL f (x :: xs) (y :: ys) = (f x y && sameL f xs ys) from rfl, Bool.and_eq_true, sameL_at f xs ys (by simpa using hl)]
    constructor
    · rintro ⟨h0, h1⟩ j hj
      cases j with
      | zero => exact h0
      | succ j => exact h1 j (by simpa using hj)
    · intro h
      exact ⟨h 0 (by simp), fun j hj => h (j + 1) (by simpa using hj)⟩
  | [], _ :: _, hl => by simp at hl
  | _ :: _, [], hl => by simp at hl
theorem loopS_at (f : V → V → Bool) (x y : V) : ∀ m i, loopS f x y m i = true ↔ ∀ j, i ≤ j → j < i + m → (f (rd_T26 x.f4 j) (rd_T26 y.f4 j) = true ∧ (j < x.f5.length → (x.f5.getD j ByteArray.empty).toList = (y.f5.getD j ByteArray.empty).toList))
  | 0, i => ⟨fun _ j h0 h1 => by omega, fun _ => rfl⟩
  | m + 1, i => by
    rw [show loopS f x y (m + 1) i = (f (rd_T26 x.f4 i) (rd_T26 y.f4 i) && (!(decide ((i : Int) < (x.f5.length : Int)) && !((x.f5.getD i ByteArray.empty).toList == (y.f5.getD i ByteArray.empty).toList)) && loopS f x y m (i + 1))) from rfl,
      Bool.and_eq_true, Bool.and_eq_true, loopS_at f x y m (i + 1)]
    have e : (!(decide ((i : Int) < (x.f5.length : Int)) && !((x.f5.getD i ByteArray.empty).toList == (y.f5.getD i ByteArray.empty).toList))) = true ↔ (i < x.f5.length → (x.f5.getD i ByteArray.empty).toList = (y.f5.getD i ByteArray.empty).toList) := by
      by_cases c : i < x.f5.length
      · have c' : (i : Int) < (x.f5.length : Int) := by omega
        simp [c, c']
      · have c' : ¬ (i : Int) < (x.f5.length : Int) := by omega
        simp [c, c']
    rw [e]
    constructor
    · rintro ⟨h0, h1, h2⟩ j j0 j1
      by_cases c : j = i
      · subst c; exact ⟨h0, h1⟩
      · exact h2 j (by omega) (by omega)
    · intro h
      exact ⟨(h i (by omega) (by omega)).1, (h i (by omega) (by omega)).2, fun j j0 j1 => h j (by omega) (by omega)⟩
theorem own_f5 {x : V} (h : ownB x = true) : x.f5.length = 0 ∨ x.f5.length = x.f4.length := by
  by_cases h6 : x.f0 = 6
  · exact .inr (keys_len h h6)
  · unfold ownB plainB at h
    simp only [Bool.and_eq_true, Bool.or_eq_true, beq_iff_eq] at h
    have := h.1.1.2.resolve_left h6
    omega
theorem own_real {x : V} (h : ownB x = true) (h3 : x.f0 = 3) : x.f1 = 0 ∧ x.f3.toList = [] ∧ x.f4.length = 0 ∧ x.f5.length = 0 := by
  unfold ownB plainB at h
  rw [h3] at h
  simp only [Bool.and_eq_true] at h
  have h1 := h.1.1
  simp at h1
  obtain ⟨⟨⟨h1, h2⟩, h4⟩, h5⟩ := h1
  exact ⟨h1, h2, by simp [h4], by simp [h5]⟩
theorem sameL_len (f : V → V → Bool) : ∀ xs ys, sameL f xs ys = true → xs.length = ys.length
  | [], [], _ => rfl
  | x :: xs, y :: ys, h => by
    rw [show sameL f (x :: xs) (y :: ys) = (f x y && sameL f xs ys) from rfl, Bool.and_eq_true] at h
    simp [sameL_len f xs ys h.2]
  | [], _ :: _, h => by cases h
  | _ :: _, [], h => by cases h
theorem getD_mem (l : List V) (j : Nat) (hj : j < l.length) : l.getD j z26 ∈ l := by
  rw [List.getD_eq_getElem?_getD, List.getElem?_eq_getElem hj]
  exact List.getElem_mem hj
theorem same_eq : ∀ (d : Nat) (x y : V), okG d x → okG d y → refS d x y = sameD d x y
  | 0, _, _, h, _ => h.elim
  | d + 1, x, y, h, h' => by
    obtain ⟨hx, ix⟩ := h
    obtain ⟨hy, iy⟩ := h'
    unfold refS sameD
    by_cases h0 : x.f0 = y.f0
    case neg => rw [beq_eq_false_iff_ne.2 h0]; rfl
    rw [beq_iff_eq.2 h0, Bool.true_and, if_pos rfl]
    by_cases h3 : x.f0 = 3
    · obtain ⟨x1, x3, x4, x5⟩ := own_real hx h3
      obtain ⟨y1, y3, y4, y5⟩ := own_real hy (h0 ▸ h3)
      rw [x1, x3, x4, x5, y1, y3, y4, y5, h3]
      simp only [beq_self_eq_true, Bool.true_and, if_true]
      unfold sameRealB
      by_cases e : x.f2 = y.f2
      · rw [e]; simp
      · rw [beq_eq_false_iff_ne.2 e, Bool.false_or, Bool.false_or]
        generalize kindN x.f2.toNat = p
        generalize kindN y.f2.toNat = q
        rw [Bool.eq_iff_iff]
        simp
        omega
    · rw [beq_eq_false_iff_ne.2 h3]
      simp only [Bool.false_eq_true, if_false]
      rw [Bool.eq_iff_iff]
      unfold equalB
      simp only [Bool.and_eq_true, decide_eq_true_eq, beq_iff_eq, loopS_at, eqFrom_at]
      have key : x.f4.length = y.f4.length → (sameL (sameD d) x.f4 y.f4 = true ↔ ∀ j, j < x.f4.length → refS d (x.f4.getD j z26) (y.f4.getD j z26) = true) := by
        intro hl
        rw [sameL_at _ _ _ hl]
        constructor
        · intro h j hj; rw [same_eq d _ _ (ix _ (getD_mem _ _ hj)) (iy _ (getD_mem _ _ (by omega)))]; exact h j hj
        · intro h j hj; rw [← same_eq d _ _ (ix _ (getD_mem _ _ hj)) (iy _ (getD_mem _ _ (by omega)))]; exact h j hj
      have k5 := own_f5 hx
      constructor
      · rintro ⟨f1, f3, l4, l5, hl⟩
        refine ⟨⟨⟨f1, f3⟩, by omega, fun j j0 j1 => (hl j j0 (by omega)).2 (by omega)⟩, (key (by omega)).2 fun j hj => (hl j (by omega) (by omega)).1⟩
      · rintro ⟨⟨⟨f1, f3⟩, l5, hk⟩, hl⟩
        have l4 := sameL_len _ _ _ hl
        exact ⟨f1, f3, by omega, by omega, fun j j0 j1 => ⟨(key l4).1 hl j (by omega), fun j5 => hk j j0 (by omega)⟩⟩

/-! ### Get -/
theorem less_irr : ∀ l : List UInt8, Op.bytesLess l l = false
  | [] => rfl
  | a :: l => by
    have h := less_irr l
    simp [Op.bytesLess, h]
theorem less_trans : ∀ x y z : List UInt8, Op.bytesLess x y = true → Op.bytesLess y z = true → Op.bytesLess x z = true
  | [], y, [], _, h => by cases y <;> simp [Op.bytesLess] at h
  | [], y, c :: z, _, _ => by simp [Op.bytesLess]
  | _ :: _, [], _, h, _ => by simp [Op.bytesLess] at h
  | _ :: _, _ :: _, [], _, h => by simp [Op.bytesLess] at h
  | a :: x, b :: y, c :: z, h1, h2 => by
    have ih := less_trans x y z
    simp only [Op.bytesLess, Bool.or_eq_true, Bool.and_eq_true, decide_eq_true_eq, beq_iff_eq] at h1 h2 ⊢
    rcases h1 with h1 | ⟨h1, h1'⟩
    · rcases h2 with h2 | ⟨h2, h2'⟩
      · left; exact UInt8.lt_trans h1 h2
      · left; rw [← h2]; exact h1
    · rcases h2 with h2 | ⟨h2, h2'⟩
      · left; rw [h1]; exact h2
      · right; exact ⟨h1.trans h2, ih h1' h2'⟩
theorem keys_at (l : List ByteArray) : ∀ m i, keysFrom l m i = true → ∀ j, i ≤ j → j < i + m → okAt l j = true
  | 0, i, _, j, h0, h1 => by omega
  | m + 1, i, h, j, h0, h1 => by
    rw [show keysFrom l (m + 1) i = (okAt l i && keysFrom l m (i + 1)) from rfl, Bool.and_eq_true] at h
    by_cases c : j = i
    · subst c; exact h.1
    · exact keys_at l m (i + 1) h.2 j (by omega) (by omega)
theorem keys_next {l : List ByteArray} (h : keysB l = true) (j : Nat) (hj : j + 1 < l.length) : Op.bytesLess (l.getD j ByteArray.empty).toList (l.getD (j + 1) ByteArray.empty).toList = true := by
  have := keys_at l l.length 0 h (j + 1) (by omega) (by omega)
  unfold okAt at this
  simp only [Bool.and_eq_true, Bool.or_eq_true, beq_iff_eq] at this
  rcases this.2 with h0 | h0
  · omega
  · rw [Nat.add_sub_cancel] at h0; exact h0
theorem keys_less {l : List ByteArray} (h : keysB l = true) (i : Nat) : ∀ d, i + d + 1 < l.length → Op.bytesLess (l.getD i ByteArray.empty).toList (l.getD (i + d + 1) ByteArray.empty).toList = true
  | 0, hd => keys_next h i hd
  | d + 1, hd => less_trans _ _ _ (keys_less h i d (by omega)) (keys_next h (i + d + 1) hd)
theorem keys_lt {l : List ByteArray} (h : keysB l = true) (i j : Nat) (hij : i < j) (hj : j < l.length) : Op.bytesLess (l.getD i ByteArray.empty).toList (l.getD j ByteArray.empty).toList = true := by
  have := keys_less h i (j - i - 1) (by omega)
  rwa [show i + (j - i - 1) + 1 = j by omega] at this
theorem search_spec (l : List ByteArray) (a : ByteArray) (hl : l.length < 1099511627776) (hk : keysB l = true) : ∀ (k : Nat) (lo hi : Nat), lo ≤ hi → hi ≤ l.length → hi - lo < k →
    (∀ j, j < lo → Op.bytesLess (l.getD j ByteArray.empty).toList a.toList = true) → (∀ j, hi ≤ j → j < l.length → Op.bytesLess (l.getD j ByteArray.empty).toList a.toList = false) →
    (∃ i : Nat, K.slices_BinarySearch_string_string.l0 k l a (l.length : Int) lo hi = some ((i : Int), true) ∧ i < l.length ∧ (l.getD i ByteArray.empty).toList = a.toList) ∨
    (∃ i : Int, K.slices_BinarySearch_string_string.l0 k l a (l.length : Int) lo hi = some (i, false) ∧ ∀ j, j < l.length → (l.getD j ByteArray.empty).toList ≠ a.toList)
  | 0, lo, hi, h1, h2, h3, _, _ => by omega
  | k + 1, lo, hi, h1, h2, h3, hA, hB => by
    unfold K.slices_BinarySearch_string_string.l0
    by_cases c : lo < hi
    · rw [if_pos (by omega : (lo : Int) < (hi : Int))]
      obtain ⟨m, hm'⟩ : ∃ m : Nat, m = (lo + hi) / 2 := ⟨_, rfl⟩
      have hm : wrap64 ((IntKind.u64.wrap (wrap64 ((lo : Int) + hi))) / 2) = (m : Int) := by
        rw [Values.wrap_small ((lo : Int) + hi) (by omega) (by omega)]
        have hu : IntKind.u64.wrap ((lo : Int) + hi) = (lo : Int) + hi := by
          show ((lo : Int) + hi) % 18446744073709551616 = (lo : Int) + hi
          exact Int.emod_eq_of_lt (by omega) (by omega)
        rw [hu, Values.wrap_small _ (by omega) (by omega)]
        omega
      have hm1 : wrap64 ((m : Int) + 1) = ((m + 1 : Nat) : Int) := Values.wrap_small _ (by omega) (by omega)
      rw [hm, less_some, hm1]
      rw [if_pos (by omega), if_pos (by omega)]
      rw [Option.bind_some]
      rw [show rdOf ByteArray.empty l (m : Int) = l.getD m ByteArray.empty from rfl]
      by_cases cl : Op.bytesLess (l.getD m ByteArray.empty).toList a.toList = true
      · rw [if_pos cl]
        refine search_spec l a hl hk k (m + 1) hi (by omega) (by omega) (by omega) (fun j hj => ?_) hB
        by_cases e : j = m
        · rw [e]; exact cl
        · exact less_trans _ _ _ (keys_lt hk j m (by omega) (by omega)) cl
      · rw [if_neg cl]
        refine search_spec l a hl hk k lo m (by omega) (by omega) (by omega) hA (fun j hj0 hj1 => ?_)
        by_cases e : j = m
        · rw [e]; simpa using cl
        · cases hh : Op.bytesLess (l.getD j ByteArray.empty).toList a.toList
          · rfl
          · exact absurd (less_trans _ _ _ (keys_lt hk m j (by omega) (by omega)) hh) cl
    · rw [if_neg (by omega)]
      have hne : ∀ j, j < lo → (l.getD j ByteArray.empty).toList ≠ a.toList := by
        intro j hj e
        have := hA j hj
        rw [e, less_irr] at this
        cases this
      by_cases c2 : lo < l.length
      · rw [if_pos (by omega), if_pos (by omega), if_pos (by omega)]
        rw [show rdOf ByteArray.empty l (lo : Int) = l.getD lo ByteArray.empty from rfl]
        by_cases ce : (l.getD lo ByteArray.empty).toList = a.toList
        · rw [if_pos ce]
          exact .inl ⟨lo, rfl, c2, ce⟩
        · rw [if_neg ce]
          unfold K.slices_isNaN_string.f
          refine .inr ⟨lo, by simp, fun j hj e => ?_⟩
          by_cases c3 : j < lo
          · exact hne j c3 e
          by_cases c4 : j = lo
          · rw [c4] at e; exact ce e
          · have := keys_lt hk lo j (by omega) hj
            rw [e, hB lo (by omega) c2] at this
            cases this
      · rw [if_neg (by omega)]
        exact .inr ⟨lo, rfl, fun j hj => hne j (by omega)⟩
theorem search_cases (l : List ByteArray) (a : ByteArray) (hl : l.length < 1099511627776) (hk : keysB l = true) :
    (∃ i : Nat, searchB l a = ((i : Int), true) ∧ i < l.length ∧ (l.getD i ByteArray.empty).toList = a.toList) ∨ ((searchB l a).2 = false ∧ ∀ j, j < l.length → (l.getD j ByteArray.empty).toList ≠ a.toList) := by
  rcases search_spec l a hl hk (l.length + 1) 0 l.length (by omega) (by omega) (by omega) (fun j hj => by omega) (fun j h0 h1 => by omega) with ⟨i, e, h1, h2⟩ | ⟨i, e, h1⟩
  · exact .inl ⟨i, by unfold searchB K.slices_BinarySearch_string_string.f; rw [show (0 : Int) = ((0 : Nat) : Int) from rfl, e]; rfl, h1, h2⟩
  · exact .inr ⟨by unfold searchB K.slices_BinarySearch_string_string.f; rw [show (0 : Int) = ((0 : Nat) : Int) from rfl, e]; rfl, h1⟩
theorem lastL_none (l : List ByteArray) (key : ByteArray) : ∀ (m i : Nat) (a : Int), (∀ j, i ≤ j → j < i + m → (l.getD j ByteArray.empty).toList ≠ key.toList) → lastL l key m i a = a
  | 0, i, a, _ => rfl
  | m + 1, i, a, h => by
    unfold lastL
    rw [if_neg (h i (by omega) (by omega))]
    exact lastL_none l key m (i + 1) a fun j h0 h1 => h j (by omega) (by omega)
theorem lastL_one (l : List ByteArray) (key : ByteArray) (p : Nat) (hp : (l.getD p ByteArray.empty).toList = key.toList) : ∀ (m i : Nat) (a : Int), i ≤ p → p < i + m → (∀ j, p < j → j < i + m → (l.getD j ByteArray.empty).toList ≠ key.toList) → lastL l key m i a = p
  | 0, i, a, h0, h1, _ => by omega
  | m + 1, i, a, h0, h1, h => by
    unfold lastL
    by_cases c : i = p
    · subst c
      rw [if_pos hp]
      exact lastL_none l key m (i + 1) _ fun j j0 j1 => h j (by omega) (by omega)
    · exact lastL_one l key p hp m (i + 1) _ (by omega) (by omega) fun j j0 j1 => h j j0 (by omega)
theorem own_six {x : V} (h : ownB x = true) (h6 : x.f0 = 6) : keysB x.f5 = true ∧ x.f5.length = x.f4.length ∧ x.f4.length ≤ 64 := by
  refine ⟨?_, keys_len h h6, ?_⟩
  · unfold ownB at h
    simp only [Bool.and_eq_true] at h
    have h2 := h.2
    rw [h6] at h2
    simp at h2
    exact h2.2
  · unfold ownB at h
    simp only [Bool.and_eq_true, decide_eq_true_eq] at h
    exact h.1.2
theorem get_eq : ∀ (ps : List ByteArray) (d : Nat) (x : V), okG d x → refAt x ps = atR x ps
  | [], _, _, _ => rfl
  | k :: ks, 0, x, h => h.elim
  | k :: ks, d + 1, x, h => by
    obtain ⟨hx, ix⟩ := h
    unfold refAt atR
    by_cases h6 : x.f0 = 6
    case neg => rw [beq_eq_false_iff_ne.2 h6]; rfl
    rw [beq_iff_eq.2 h6, if_pos rfl, if_pos rfl]
    obtain ⟨hk, l5, l4⟩ := own_six hx h6
    rcases search_cases x.f5 k (by omega) hk with ⟨i, e, hi, ek⟩ | ⟨e, hn⟩
    · have el := lastL_one x.f5 k i ek x.f5.length 0 (-1) (by omega) (by omega) fun j j0 j1 e2 => by
        have := keys_lt hk i j j0 (by omega)
        rw [e2, ek, less_irr] at this
        cases this
      rw [el, e, if_neg (by omega), if_pos rfl]
      exact get_eq ks d _ (ix _ (getD_mem x.f4 i (by omega)))
    · have el := lastL_none x.f5 k x.f5.length 0 (-1) fun j j0 j1 => hn j (by omega)
      rw [el, e, if_pos (by omega)]
      rfl
theorem getR_eq (x : V) (ps : List ByteArray) : refGetR x ps = getR x ps := by
  unfold refGetR getR
  by_cases h : mayB x = true ∧ ps.length ≤ 8
  · rw [if_pos h, if_pos ⟨h.2, h.1⟩]
    exact get_eq ps 8 x (okG_of_may 8 x 1024 h.1)
  · rw [if_neg h, if_neg fun c => h ⟨c.2, c.1⟩]
theorem same_may (x y : V) : (mayB x && (mayB y && refS 8 x y)) = (mayB x && mayB y && sameD 8 x y) := by
  cases hx : mayB x
  · rfl
  cases hy : mayB y
  · rfl
  rw [same_eq 8 x y (okG_of_may 8 x 1024 hx) (okG_of_may 8 y 1024 hy)]
  rfl
end Go.Proofs.YtepolmajebdphaaDoor.PureV
