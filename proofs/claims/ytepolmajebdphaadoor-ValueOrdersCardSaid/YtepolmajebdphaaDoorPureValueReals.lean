/- Reals as numbers: the law ValueReals, over words alone. -/
import Derived.Test.YtepolmajebdphaaDoorQ4
import Derived.Test.YtepolmajebdphaaDoorRefReal
namespace Go.Proofs.YtepolmajebdphaaDoor.Pure
set_option linter.unusedSimpArgs false
set_option linter.unusedVariables false
open Go.RowKit Go.Proofs.YtepolmajebdphaaDoor.Q Go.Proofs.YtepolmajebdphaaDoor.Real Go.Proofs.YtepolmajebdphaaDoor.RealPure Go.Proofs.YtepolmajebdphaaDoor.PureReals Go.Proofs.YtepolmajebdphaaDoor.RefReals Go.Proofs.YtepolmajebdphaaDoor.Values Go.Proofs.YtepolmajebdphaaDoorW.PrintWords Go.Proofs.YtepolmajebdphaaDoorW.PrintLast Go.Proofs.YtepolmajebdphaaDoorW.PrintMore

def bV (a : Int) : V := ⟨3, 0, a, ⟨#[]⟩, [], []⟩
theorem may_bits (a : Int) : mayB (bV a) = true := by kernel_rfl
theorem less_bits (a b : Int) : lessB (bV a) (bV b) = floatLt a.toNat b.toNat ∧ lessE (bV a) (bV b) = 0 := by
  unfold lessB lessE
  rw [may_bits, may_bits]
  exact ⟨rfl, rfl⟩
theorem lt_place (a b : Nat) : floatLt a b = (!(nanB a) && !(nanB b) && decide (place a < place b)) := by
  unfold floatLt
  show (Ieee.double.order a b == some .lt) = _
  rw [order_words]
  by_cases h : (nanB a || nanB b) = true
  · rw [if_pos h]
    cases h1 : nanB a <;> cases h2 : nanB b <;> simp [h1, h2] at h ⊢ <;> rfl
  · rw [if_neg h]
    have h1 : nanB a = false := by cases h1 : nanB a <;> simp [h1] at h ⊢
    have h2 : nanB b = false := by cases h2 : nanB b <;> simp [h1, h2] at h ⊢
    rw [h1, h2]
    by_cases c : place a < place b
    · rw [decide_eq_true c]
      simp [compare, compareOfLessAndEq, c]
    · rw [decide_eq_false c]
      simp [compare, compareOfLessAndEq, c]
      split <;> decide
theorem kind_nan (b : Nat) : kindN b = 0 ↔ nanB b = true := by
  rw [kind_cases]
  cases h : nanB b <;> simp
  repeat' split
  all_goals omega
theorem kind_zero (b : Nat) (h : nanB b = false) : kindN b = 2 ↔ b % 2 ^ 63 = 0 := by
  rw [kind_cases, h]
  simp only [Bool.false_eq_true, if_false]
  repeat' split
  all_goals omega
theorem same_place (a b : Nat) (ha : a < 2 ^ 64) (hb : b < 2 ^ 64) (h1 : nanB a = false) (h2 : nanB b = false) : sameRealB a b = decide (place a = place b) := by
  have k1 : kindN a ≠ 0 := fun h => by rw [(kind_nan a).1 h] at h1; cases h1
  have z1 := kind_zero a h1
  have z2 := kind_zero b h2
  unfold sameRealB
  rw [Int.toNat_natCast, Int.toNat_natCast]
  rw [bne_iff_ne.2 k1]
  by_cases e : a = b
  · subst e; simp
  · have e' : ((a : Int) == (b : Int)) = false := beq_eq_false_iff_ne.2 (by omega)
    rw [e']
    have hp : place a = place b ↔ (a % 2 ^ 63 = 0 ∧ b % 2 ^ 63 = 0) := by
      unfold place
      split <;> split <;> omega
    by_cases hz : kindN a = 2
    · rw [hz]
      by_cases hz2 : kindN b = 2
      · rw [hz2]
        have := hp.2 ⟨z1.1 hz, z2.1 hz2⟩
        simp [this]
      · have : ¬ place a = place b := fun h => hz2 (z2.2 (hp.1 h).2)
        rw [decide_eq_false this, beq_eq_false_iff_ne.2 (fun h => hz2 h.symm)]
        rfl
    · have : ¬ place a = place b := fun h => hz (z1.2 (hp.1 h).1)
      rw [decide_eq_false this, beq_eq_false_iff_ne.2 hz]
      simp
theorem same_nan (a b : Nat) (h : kindN a = 0 ∨ kindN b = 0) : sameRealB a b = false := by
  unfold sameRealB
  rw [Int.toNat_natCast, Int.toNat_natCast]
  by_cases ha : kindN a = 0
  · rw [ha]; simp
  · have hb := h.resolve_left ha
    rw [hb, beq_eq_false_iff_ne.2 ha]; rfl
theorem less_f (a b : Int) : value_Less.f 3 0 a ⟨#[]⟩ [] [] 3 0 b ⟨#[]⟩ [] [] = some (floatLt a.toNat b.toNat, 0) := by
  have h := less_bits a b
  show some (lessB (bV a) (bV b), lessE (bV a) (bV b)) = _
  rw [h.1, h.2]
theorem same_f (a b : Nat) (ha : a < 2 ^ 64) (hb : b < 2 ^ 64) : value_Same.f 3 0 (a : Int) ⟨#[]⟩ [] [] 3 0 (b : Int) ⟨#[]⟩ [] [] = some (sameRealB a b) := by
  show (if rngB 8 (bV a) = true ∧ rngB 8 (bV b) = true then some (mayB (bV a) && mayB (bV b) && sameD 8 (bV a) (bV b)) else none) = _
  have r : ∀ c : Nat, c < 2 ^ 64 → rngB 8 (bV c) = true := by
    intro c hc
    show ((decide (0 ≤ (c : Int)) && decide ((c : Int) < 2 ^ 64)) && ([] : List V).all (rngB 7)) = true
    rw [decide_eq_true (by omega), decide_eq_true (by omega)]; rfl
  rw [if_pos ⟨r a ha, r b hb⟩, may_bits, may_bits]
  rfl
theorem truth_bits (a : Int) : truthB (bV a) = (kindN a.toNat != 2 && kindN a.toNat != 0) := by
  unfold truthB
  simp only [bV]
  simp
theorem true_f (a : Nat) (ha : a < 2 ^ 64) : value_True.f 3 0 (a : Int) ⟨#[]⟩ [] [] = some (kindN a != 2 && kindN a != 0) := by
  unfold value_True.f
  rw [if_pos ⟨by omega, by omega⟩]
  have h1 := may_bits (a : Int)
  have h2 := truth_bits (a : Int)
  unfold bV at h1 h2
  rw [h1, h2, Int.toNat_natCast, Bool.true_and]
theorem bindS {α β : Type} (x : α) (f : α → Option β) (y : Option α) (h : y = some x) : y.bind f = f x := by subst h; exact Option.bind_some ..
theorem bits_eq (x : Int) : stolelaw4_bits.f x = some (3, 0, x, ⟨#[]⟩, [], []) := rfl
theorem num_eq (x : Int) : stolelaw0_Num.f x = some x := rfl
theorem j1_eq (k : Nat) (a b : Nat) (ha : a < 2 ^ 64) (hb : b < 2 ^ 64) (hk : 68 ≤ k) (x y z u n : Bool) :
    stolelaw4_ValueReals.j1 (k + 1) (a : Int) (b : Int) x y z u n = (if n = true then (if x = true then some false else if y = true then some false else if sameRealB a b = true then some false else (if kindN a = 0 then some ((kindN a != 2 && kindN a != 0) == false) else some ((kindN a != 2 && kindN a != 0) == (kindN a != 2))))
      else if x = true then (if y = true then some false else if sameRealB a b = true then some false else if z = true then some u else some true) else if y = true then (if sameRealB a b = true then some false else some true) else if sameRealB a b = true then some true else some false) := by
  rw [stolelaw4_ValueReals.j1]
  rw [bindS _ _ _ (bits_eq _), bindS _ _ _ (bits_eq _), bindS _ _ _ (same_f a b ha hb)]
  rw [bindS _ _ _ (bits_eq _), bindS _ _ _ (true_f a ha), bindS _ _ _ (real_f a ha k hk), bindS _ _ _ (real_f a ha k hk)]
theorem j0_eq (k : Nat) (a b : Nat) (ha : a < 2 ^ 64) (hb : b < 2 ^ 64) (hk : 68 ≤ k) (x y z u : Bool) :
    stolelaw4_ValueReals.j0 (k + 1 + 1) (a : Int) (b : Int) x y z u false = (if kindN a = 0 then stolelaw4_ValueReals.j1 (k + 1) (a : Int) (b : Int) x y z u true else stolelaw4_ValueReals.j1 (k + 1) (a : Int) (b : Int) x y z u (kindN b == 0)) := by
  rw [stolelaw4_ValueReals.j0, if_neg (by decide), bindS _ _ _ (real_f a ha (k + 1) (by omega)), bindS _ _ _ (real_f b hb (k + 1) (by omega))]
theorem ValueReals : stolelaw4_ValueReals.Pure := by
  intro a0 a1 a2 w0 w1 w2
  obtain ⟨a, rfl, ha⟩ := wf_u64 w0
  obtain ⟨b, rfl, hb⟩ := wf_u64 w1
  obtain ⟨c, rfl, hc⟩ := wf_u64 w2
  refine ⟨70 + 1 + 1, ?_⟩
  have ra := fun k (h : 68 ≤ k) => real_f a ha k h
  have rb := fun k (h : 68 ≤ k) => real_f b hb k h
  unfold stolelaw4_ValueReals.f
  rw [bindS _ _ _ (show stolelaw4_awake.f = some true from rfl), if_pos rfl]
  rw [bindS _ _ _ (bits_eq _), bindS _ _ _ (bits_eq _), bindS _ _ _ (less_f _ _), bindS _ _ _ (bits_eq _), bindS _ _ _ (bits_eq _), bindS _ _ _ (less_f _ _), bindS _ _ _ (bits_eq _), bindS _ _ _ (bits_eq _), bindS _ _ _ (less_f _ _), bindS _ _ _ (bits_eq _), bindS _ _ _ (bits_eq _), bindS _ _ _ (less_f _ _)]
  rw [bindS _ _ _ (num_eq _), if_pos rfl, bindS _ _ _ (num_eq _), if_pos rfl, bindS _ _ _ (num_eq _), if_pos rfl, bindS _ _ _ (num_eq _)]
  rw [show ((0 : Int) != 0) = false from rfl, j0_eq 70 a b ha hb (by omega), j1_eq 70 a b ha hb (by omega) _ _ _ _ _, j1_eq 70 a b ha hb (by omega) _ _ _ _ _]
  simp only [Int.toNat_natCast, lt_place]
  have n1 := kind_nan a
  have n2 := kind_nan b
  by_cases ka : kindN a = 0
  · have e1 := same_nan a b (.inl ka); have e2 := n1.1 ka
    simp [ka, e1, e2]
  have na : nanB a = false := by cases h : nanB a; rfl; exact absurd (n1.2 h) ka
  by_cases kb : kindN b = 0
  · have e1 := same_nan a b (.inr kb); have e2 := n2.1 kb
    simp [ka, kb, e1, e2]
  have nb : nanB b = false := by cases h : nanB b; rfl; exact absurd (n2.2 h) kb
  have e1 := same_place a b ha hb na nb
  by_cases c1 : place a < place b
  · have c2 : ¬ place b < place a := by omega
    have c3 : ¬ place a = place b := by omega
    cases hc' : nanB c
    · by_cases c4 : place b < place c
      · have c5 : place a < place c := by omega
        simp [ka, kb, na, nb, e1, c1, c2, c3, c4, c5, hc']
      · simp [ka, kb, na, nb, e1, c1, c2, c3, c4, hc']
    · simp [ka, kb, na, nb, e1, c1, c2, c3, hc']
  · by_cases c2 : place b < place a
    · have c3 : ¬ place a = place b := by omega
      simp [ka, kb, na, nb, e1, c1, c2, c3]
    · have c3 : place a = place b := by omega
      simp [ka, kb, na, nb, e1, c3]
end Go.Proofs.YtepolmajebdphaaDoor.Pure
