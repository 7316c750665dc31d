/- Values, the plain laws: of a copy that is cut at forty levels; of what Get finds. -/
import Derived.Test.YtoocfodefbechaaGreatDoorPureV
import Derived.Test.YtoocfodefbechaaGreatDoorSpoil
namespace Go.Proofs.YtoocfodefbechaaGreatDoor.PureV
open Go.RowKit Go.Proofs.YtoocfodefbechaaGreatDoor.Q Go.Proofs.YtoocfodefbechaaGreatDoor.Real Go.Proofs.YtoocfodefbechaaGreatDoor.RealPure Go.Proofs.YtoocfodefbechaaGreatDoor.Values Go.Proofs.YtoocfodefbechaaGreatDoorW.PrintWords Go.Proofs.YtoocfodefbechaaGreatDoorW.PrintLast Go.Proofs.YtoocfodefbechaaGreatDoorW.PrintMore
set_option linter.unusedSimpArgs false
set_option linter.unusedVariables false
theorem eqFrom_refl (l : List ByteArray) : ∀ m i, eqFrom l l m i = true
  | 0, _ => rfl
  | m + 1, i => by unfold eqFrom; rw [eqFrom_refl l m (i + 1), beq_self_eq_true]; rfl
theorem texts_refl (l : List ByteArray) : textsB l l = true := by unfold textsB; rw [eqFrom_refl, decide_eq_true rfl]; rfl
theorem sameL_refl (f : V → V → Bool) : ∀ l : List V, (∀ z ∈ l, f z z = true) → sameL f l l = true
  | [], _ => rfl
  | y :: ys, h => by unfold sameL; rw [h y List.mem_cons_self, sameL_refl f ys (fun z hz => h z (List.mem_cons_of_mem _ hz))]; rfl
theorem sv_refl : ∀ d x, deepD d x → svD d x x = true
  | 0, x, h => h.elim
  | d + 1, x, h => by
    unfold svD
    rw [texts_refl, sameL_refl (svD d) x.f4 (fun z hz => sv_refl d z (h z hz))]
    simp
theorem rng_trunc : ∀ (e d : Nat) (x : V), rngD d x → rngD d (truncD e x)
  | _, 0, _, _ => trivial
  | 0, d + 1, x, h => ⟨h.1, h.2.1, fun z hz => by cases hz⟩
  | e + 1, d + 1, x, h => ⟨h.1, h.2.1, fun z hz => by
    obtain ⟨y, hy, rfl⟩ := List.mem_map.1 hz
    exact rng_trunc e d y (h.2.2 y hy)⟩
theorem okG_deep : ∀ (d : Nat) (x : V), okG d x → deepD d x
  | 0, _, h => h.elim
  | d + 1, x, h => fun z hz => okG_deep d z (h.2 z hz)
theorem own_keys {x : V} (h : ownB x = true) : ∀ k ∈ x.f5, k.size ≤ 32 := by
  intro k hk
  by_cases h6 : x.f0 = 6
  · obtain ⟨hkb, _, _⟩ := own_six h h6
    obtain ⟨j, hj, rfl⟩ := List.getElem_of_mem hk
    have := keys_at x.f5 x.f5.length 0 hkb j (by omega) (by omega)
    unfold okAt at this
    simp only [Bool.and_eq_true, decide_eq_true_eq] at this
    have h2 := this.1.2
    rw [List.getD_eq_getElem?_getD, List.getElem?_eq_getElem hj] at h2
    exact h2
  · unfold ownB plainB at h
    simp only [Bool.and_eq_true, Bool.or_eq_true, beq_iff_eq] at h
    have h0 := h.1.1.2.resolve_left h6
    have : x.f5 = [] := List.eq_nil_of_length_eq_zero (by omega)
    rw [this] at hk; cases hk
theorem okG_ksz : ∀ (d : Nat) (x : V), okG d x → kszD 32 d x
  | 0, _, h => h.elim
  | d + 1, x, h => ⟨own_keys h.1, fun z hz => okG_ksz d z (h.2 z hz)⟩
theorem sumN_bound (f : V → Nat) (M : Nat) : ∀ l : List V, (∀ z ∈ l, f z ≤ M) → sumN f l ≤ l.length * M
  | [], _ => by simp [sumN]
  | y :: ys, h => by
    have h1 := h y List.mem_cons_self
    have h2 := sumN_bound f M ys fun z hz => h z (List.mem_cons_of_mem _ hz)
    rw [show sumN f (y :: ys) = f y + sumN f ys from rfl, List.length_cons, Nat.succ_mul]
    omega
theorem nodes_bound : ∀ (d : Nat) (x : V), okG d x → nodesD d x ≤ 65 ^ d
  | 0, _, h => h.elim
  | d + 1, x, h => by
    have h1 := sumN_bound (nodesD d) (65 ^ d) x.f4 fun z hz => nodes_bound d z (h.2 z hz)
    have h4 : x.f4.length ≤ 64 := by
      have := h.1
      unfold ownB at this
      simp only [Bool.and_eq_true, decide_eq_true_eq] at this
      exact this.1.2
    have h2 : x.f4.length * 65 ^ d ≤ 64 * 65 ^ d := Nat.mul_le_mul_right _ h4
    have h3 : 1 ≤ 65 ^ d := Nat.pos_of_ne_zero (by simp)
    rw [show nodesD (d + 1) x = 1 + sumN (nodesD d) x.f4 from rfl, Nat.pow_succ]
    omega
end Go.Proofs.YtoocfodefbechaaGreatDoor.PureV
