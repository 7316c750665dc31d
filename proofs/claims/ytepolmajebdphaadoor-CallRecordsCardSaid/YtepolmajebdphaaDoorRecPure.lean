/- A record's keys are in their order: each is found at its own place; a key is found if it is one of them. -/
import Derived.Test.YtepolmajebdphaaDoorFns
namespace Go.Proofs.YtepolmajebdphaaDoor.Fns
open Go.RowKit Go.Proofs.YtepolmajebdphaaDoor.Q Go.Proofs.YtepolmajebdphaaDoor.Real Go.Proofs.YtepolmajebdphaaDoor.RealPure Go.Proofs.YtepolmajebdphaaDoor.Values Go.Proofs.YtepolmajebdphaaDoorW.PrintWords Go.Proofs.YtepolmajebdphaaDoorW.PrintLast Go.Proofs.YtepolmajebdphaaDoorW.PrintMore
set_option linter.unusedSimpArgs false
set_option linter.unusedVariables false

theorem less_irr : ∀ l : List UInt8, Op.bytesLess l l = false
  | [] => rfl
  | a :: l => by
    have h := less_irr l
    simp [Op.bytesLess, h]
theorem less_trans : ∀ x y z : List UInt8, Op.bytesLess x y = true → Op.bytesLess y z = true → Op.bytesLess x z = true
  | [], y, [], _, h => by cases y <;> simp [Op.bytesLess] at h
  | [], y, c :: z, _, _ => by simp [Op.bytesLess]
  | _ :: _, [], _, h, _ => by simp [Op.bytesLess] at h
  | _ :: _, _ :: _, [], _, h => by simp [Op.bytesLess] at h
  | a :: x, b :: y, c :: z, h1, h2 => by
    have ih := less_trans x y z
    simp only [Op.bytesLess, Bool.or_eq_true, Bool.and_eq_true, decide_eq_true_eq, beq_iff_eq] at h1 h2 ⊢
    rcases h1 with h1 | ⟨h1, h1'⟩
    · rcases h2 with h2 | ⟨h2, h2'⟩
      · left; exact UInt8.lt_trans h1 h2
      · left; rw [← h2]; exact h1
    · rcases h2 with h2 | ⟨h2, h2'⟩
      · left; rw [h1]; exact h2
      · right; exact ⟨h1.trans h2, ih h1' h2'⟩
theorem keys_at (l : List ByteArray) : ∀ m i, keysFrom l m i = true → ∀ j, i ≤ j → j < i + m → okAt l j = true
  | 0, i, _, j, h0, h1 => by omega
  | m + 1, i, h, j, h0, h1 => by
    rw [show keysFrom l (m + 1) i = (okAt l i && keysFrom l m (i + 1)) from rfl, Bool.and_eq_true] at h
    by_cases c : j = i
    · subst c; exact h.1
    · exact keys_at l m (i + 1) h.2 j (by omega) (by omega)
theorem keys_ok {l : List ByteArray} (h : keysB l = true) (j : Nat) (hj : j < l.length) : okAt l j = true := keys_at l l.length 0 h j (by omega) (by omega)
theorem key_size {l : List ByteArray} (h : keysB l = true) (j : Nat) (hj : j < l.length) : (l.getD j ByteArray.empty).size ≤ 32 := by
  have := keys_ok h j hj
  unfold okAt at this
  simp only [Bool.and_eq_true, decide_eq_true_eq] at this
  exact this.1.2
theorem keys_next {l : List ByteArray} (h : keysB l = true) (j : Nat) (hj : j + 1 < l.length) : Op.bytesLess (l.getD j ByteArray.empty).toList (l.getD (j + 1) ByteArray.empty).toList = true := by
  have := keys_ok h (j + 1) hj
  unfold okAt at this
  simp only [Bool.and_eq_true, Bool.or_eq_true, beq_iff_eq] at this
  rcases this.2 with h0 | h0
  · omega
  · rw [Nat.add_sub_cancel] at h0; exact h0
theorem keys_less {l : List ByteArray} (h : keysB l = true) (i : Nat) : ∀ d, i + d + 1 < l.length → Op.bytesLess (l.getD i ByteArray.empty).toList (l.getD (i + d + 1) ByteArray.empty).toList = true
  | 0, hd => keys_next h i hd
  | d + 1, hd => less_trans _ _ _ (keys_less h i d (by omega)) (keys_next h (i + d + 1) hd)
theorem keys_ne {l : List ByteArray} (h : keysB l = true) (i j : Nat) (hij : i < j) (hj : j < l.length) : (l.getD j ByteArray.empty).toList ≠ (l.getD i ByteArray.empty).toList := by
  intro e
  have h1 := keys_less h i (j - i - 1) (by omega)
  rw [show i + (j - i - 1) + 1 = j by omega, e, less_irr] at h1
  cases h1
theorem keyI_first : ∀ (l : List ByteArray) (a : ByteArray) (s : Int) (j : Nat), j < l.length → a.toList = (l.getD j ByteArray.empty).toList → (∀ k, k < j → a.toList ≠ (l.getD k ByteArray.empty).toList) → keyI l a s = s + j
  | [], a, s, j, hj, _, _ => by simp at hj
  | k :: ks, a, s, 0, hj, he, _ => by
    have he' : a.toList = k.toList := he
    unfold keyI
    rw [if_pos he']; simp
  | k :: ks, a, s, j + 1, hj, he, hn => by
    have hn' : ¬ a.toList = k.toList := hn 0 (by omega)
    unfold keyI
    rw [if_neg hn']
    have := keyI_first ks a (s + 1) j (by simpa using hj) (by simpa using he) (fun q hq => by have := hn (q + 1) (by omega); simpa using this)
    rw [this]; push_cast; omega
theorem keyI_own {l : List ByteArray} (h : keysB l = true) (j : Nat) (hj : j < l.length) : keyI l (l.getD j ByteArray.empty) 0 = j := by
  rw [keyI_first l _ 0 j hj rfl (fun k hk => keys_ne h k j hk hj)]; omega
/-- Is a key one of them? -/
def hasK (l : List ByteArray) (a : ByteArray) : Bool := l.any fun k => k.toList == a.toList
theorem keyI_has : ∀ (l : List ByteArray) (a : ByteArray) (s : Int), 0 ≤ s → (hasK l a = true → 0 ≤ keyI l a s ∧ keyI l a s < s + l.length) ∧ (hasK l a = false → keyI l a s = -1)
  | [], a, s, h => ⟨fun hh => (by cases hh), fun _ => rfl⟩
  | k :: ks, a, s, h => by
    have ih := keyI_has ks a (s + 1) (by omega)
    unfold keyI
    by_cases c : a.toList = k.toList
    · rw [if_pos c]
      exact ⟨fun _ => ⟨h, by simp; omega⟩, fun hh => by unfold hasK at hh; simp [c] at hh⟩
    · rw [if_neg c]
      have e : hasK (k :: ks) a = hasK ks a := by unfold hasK; simp [List.any_cons, beq_eq_false_iff_ne.2 (Ne.symm c)]
      rw [e]
      exact ⟨fun hh => ⟨(ih.1 hh).1, by have := (ih.1 hh).2; simp; omega⟩, ih.2⟩
theorem hasK_take (l : List ByteArray) (a : ByteArray) (i : Nat) (hi : i < l.length) : hasK (l.take (i + 1)) a = (hasK (l.take i) a || ((l.getD i ByteArray.empty).toList == a.toList)) := by
  unfold hasK
  rw [List.take_add_one, List.getElem?_eq_getElem hi, List.any_append]
  simp [List.getD_eq_getElem?_getD, List.getElem?_eq_getElem hi]
end Go.Proofs.YtepolmajebdphaaDoor.Fns
