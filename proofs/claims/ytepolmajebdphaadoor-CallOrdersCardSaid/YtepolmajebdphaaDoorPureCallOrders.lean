/- Less, more, the same: the law CallOrders, over numbers and texts alone. -/
import Derived.Test.YtepolmajebdphaaDoorC5
namespace Go.Proofs.YtepolmajebdphaaDoor.Pure
set_option linter.unusedSimpArgs false
set_option linter.unusedVariables false
open Go.RowKit Go.Proofs.YtepolmajebdphaaDoor.Q Go.Proofs.YtepolmajebdphaaDoor.Real Go.Proofs.YtepolmajebdphaaDoor.RealPure Go.Proofs.YtepolmajebdphaaDoor.Values Go.Proofs.YtepolmajebdphaaDoor.Fns Go.Proofs.YtepolmajebdphaaDoorW.PrintWords Go.Proofs.YtepolmajebdphaaDoorW.PrintLast Go.Proofs.YtepolmajebdphaaDoorW.PrintMore

theorem bindC {α β : Type} (x : α) (f : α → Option β) (y : Option α) (h : y = some x) : y.bind f = f x := by subst h; exact Option.bind_some ..
def nV (a : Int) : V := ⟨2, a, 0, ⟨#[]⟩, [], []⟩
def tV (s : ByteArray) : V := ⟨4, 0, 0, s, [], []⟩
theorem own_num (a : Int) : ownB (nV a) = intB a := by
  have h : plainB (nV a) = true := by kernel_rfl
  unfold ownB
  rw [h]
  simp [nV]
theorem own_text (s : ByteArray) : ownB (tV s) = decide (s.size ≤ 65536) := by
  have h : plainB (tV s) = true := by kernel_rfl
  unfold ownB
  rw [h]
  simp [tV]
  exact decide_eq_decide.2 Iff.rfl
theorem may_of_own (x : V) (h4 : x.f4 = []) : mayB x = ownB x := by
  unfold mayB
  rw [mayD, if_neg (by decide), h4]
  cases ownB x <;> rfl
theorem may_num (a : Int) (h0 : -9007199254740991 ≤ a) (h1 : a ≤ 9007199254740991) : mayB (nV a) = true := by
  rw [may_of_own _ rfl, own_num]
  unfold intB
  rw [decide_eq_true h0, decide_eq_true h1]; rfl
theorem may_text (s : ByteArray) (h : s.size ≤ 65536) : mayB (tV s) = true := by rw [may_of_own _ rfl, own_text]; exact decide_eq_true h
theorem no3 : fnNo ⟨#[108, 116]⟩ = 3 := by kernel_rfl
theorem no2 : fnNo ⟨#[101, 113]⟩ = 2 := by kernel_rfl
theorem call_lt (a b : V) (ha : mayB a = true) (hb : mayB b = true) (he : lessE a b = 0) : callR ⟨#[108, 116]⟩ [a, b] = (boolV (lessB a b), 0) := by
  unfold callR
  rw [no3]
  have h1 : countBad (knownR 3) [a, b].length = false := by rfl
  have h2 : ([a, b].any fun v => !mayB v) = false := by simp [ha, hb]
  rw [if_neg (by decide), h1, if_neg (by decide), h2, if_neg (by decide)]
  show (if lessE a b = 0 then (boolV (lessB a b), (0 : Int)) else (z26, 1802)) = _
  rw [if_pos he]
theorem call_eq (a b : V) (ha : mayB a = true) (hb : mayB b = true) : callR ⟨#[101, 113]⟩ [a, b] = (boolV (sameD 8 a b), 0) := by
  unfold callR
  rw [no2]
  have h1 : countBad (knownR 2) [a, b].length = false := by rfl
  have h2 : ([a, b].any fun v => !mayB v) = false := by simp [ha, hb]
  rw [if_neg (by decide), h1, if_neg (by decide), h2, if_neg (by decide)]
  show (boolV (mayB a && mayB b && sameD 8 a b), (0 : Int)) = _
  rw [ha, hb]
  rfl
theorem once_of (a b : V) (p q r s : Bool) (ha : mayB a = true) (hb : mayB b = true) (e1 : lessE a b = 0) (e2 : lessE b a = 0) (l1 : lessB a b = p) (l2 : lessB b a = q) (l3 : sameD 8 a b = r) (h : (p = true ∧ q = false ∧ r = false) ∨ (p = false ∧ q = true ∧ r = false) ∨ (p = false ∧ q = false ∧ r = true)) (hs : s = r) : onceR a b s = true := by
  unfold onceR
  rw [call_lt a b ha hb e1, call_lt b a hb ha e2, call_eq a b ha hb, l1, l2, l3]
  subst hs
  rcases h with ⟨rfl, rfl, rfl⟩ | ⟨rfl, rfl, rfl⟩ | ⟨rfl, rfl, rfl⟩ <;> kernel_rfl
theorem bytes_irr : ∀ l : List UInt8, Op.bytesLess l l = false
  | [] => rfl
  | a :: x => by
    have h := bytes_irr x
    simp [Op.bytesLess, h]
theorem bytes_three : ∀ x y : List UInt8, (Op.bytesLess x y = true ∧ Op.bytesLess y x = false ∧ (x == y) = false) ∨ (Op.bytesLess x y = false ∧ Op.bytesLess y x = true ∧ (x == y) = false) ∨ (Op.bytesLess x y = false ∧ Op.bytesLess y x = false ∧ (x == y) = true)
  | [], [] => .inr (.inr ⟨rfl, rfl, rfl⟩)
  | [], b :: y => .inl ⟨rfl, rfl, rfl⟩
  | a :: x, [] => .inr (.inl ⟨rfl, rfl, rfl⟩)
  | a :: x, b :: y => by
    have ih := bytes_three x y
    by_cases h1 : a < b
    · have h2 : ¬ b < a := fun h => absurd h1 (UInt8.lt_asymm h)
      have h3 : a ≠ b := fun h => by subst h; exact UInt8.lt_irrefl a h1
      have h4 : b ≠ a := fun h => h3 h.symm
      exact .inl ⟨by simp [Op.bytesLess, h1], by simp [Op.bytesLess, h2, h4], by simp [h3]⟩
    · by_cases h2 : b < a
      · have h3 : a ≠ b := fun h => by subst h; exact UInt8.lt_irrefl a h2
        have h4 : b ≠ a := fun h => h3 h.symm
        exact .inr (.inl ⟨by simp [Op.bytesLess, h1, h3], by simp [Op.bytesLess, h2], by simp [h3]⟩)
      · have h3 : a = b := by
          apply UInt8.le_antisymm
          · exact UInt8.not_lt.1 h2
          · exact UInt8.not_lt.1 h1
        subst h3
        simp only [Op.bytesLess, h1, decide_false, Bool.false_or, beq_self_eq_true, Bool.true_and, List.cons_beq_cons]
        exact ih
theorem once_num (a b : Int) (s : Bool) (h0 : -9007199254740991 ≤ a) (h1 : a ≤ 9007199254740991) (h2 : -9007199254740991 ≤ b) (h3 : b ≤ 9007199254740991) (hs : s = (a == b)) : stolelaw18_once.f 2 a 0 ⟨#[]⟩ [] [] 2 b 0 ⟨#[]⟩ [] [] s = some true := by
  have ma := may_num a h0 h1
  have mb := may_num b h2 h3
  unfold stolelaw18_once.f
  rw [if_pos ⟨by rfl, by rfl⟩]
  congr 1
  have e1 : lessE (nV a) (nV b) = 0 := by unfold lessE; rw [ma, mb]; rfl
  have e2 : lessE (nV b) (nV a) = 0 := by unfold lessE; rw [ma, mb]; rfl
  have l1 : lessB (nV a) (nV b) = decide (a < b) := by unfold lessB; rw [ma, mb]; rfl
  have l2 : lessB (nV b) (nV a) = decide (b < a) := by unfold lessB; rw [ma, mb]; rfl
  have l3 : sameD 8 (nV a) (nV b) = (a == b) := by
    show ((a == b && (⟨#[]⟩ : ByteArray).toList == (⟨#[]⟩ : ByteArray).toList) && equalB [] [] && sameL (sameD 7) [] []) = _
    rw [beq_self_eq_true (⟨#[]⟩ : ByteArray).toList]
    cases (a == b) <;> rfl
  refine once_of (nV a) (nV b) _ _ _ s ma mb e1 e2 l1 l2 l3 ?_ hs
  by_cases c1 : a < b
  · exact .inl ⟨decide_eq_true c1, decide_eq_false (by omega), beq_eq_false_iff_ne.2 (by omega)⟩
  · by_cases c2 : b < a
    · exact .inr (.inl ⟨decide_eq_false c1, decide_eq_true c2, beq_eq_false_iff_ne.2 (by omega)⟩)
    · exact .inr (.inr ⟨decide_eq_false c1, decide_eq_false c2, beq_iff_eq.2 (by omega)⟩)
theorem once_text (s t : ByteArray) (h0 : s.size ≤ 65536) (h1 : t.size ≤ 65536) : stolelaw18_once.f 4 0 0 s [] [] 4 0 0 t [] [] (s.toList == t.toList) = some true := by
  have ma := may_text s h0
  have mb := may_text t h1
  unfold stolelaw18_once.f
  rw [if_pos ⟨by rfl, by rfl⟩]
  congr 1
  have e1 : lessE (tV s) (tV t) = 0 := by unfold lessE; rw [ma, mb]; rfl
  have e2 : lessE (tV t) (tV s) = 0 := by unfold lessE; rw [ma, mb]; rfl
  have l1 : lessB (tV s) (tV t) = Op.bytesLess s.toList t.toList := by unfold lessB; rw [ma, mb]; rfl
  have l2 : lessB (tV t) (tV s) = Op.bytesLess t.toList s.toList := by unfold lessB; rw [ma, mb]; rfl
  have l3 : sameD 8 (tV s) (tV t) = (s.toList == t.toList) := by
    show ((((0 : Int) == 0) && s.toList == t.toList) && equalB [] [] && sameL (sameD 7) [] []) = _
    cases (s.toList == t.toList) <;> rfl
  exact once_of (tV s) (tV t) _ _ _ _ ma mb e1 e2 l1 l2 l3 (bytes_three _ _) rfl
theorem num18_eq (x : Int) : stolelaw18_num.f x = some (2, x, 0, ⟨#[]⟩, [], []) := rfl
theorem text18_eq (s : ByteArray) : stolelaw18_text.f s = some (4, 0, 0, s, [], []) := rfl
theorem and53 (a : Int) : ∃ K : Nat, bits .and .i64 a 9007199254740991 = (K : Int) ∧ K < 2 ^ 53 := by
  have hc : (BitVec.ofInt 64 9007199254740991).toNat = 2 ^ 53 - 1 := by decide
  have key : (BitVec.ofInt 64 a &&& BitVec.ofInt 64 9007199254740991).toNat = (a % ((2 ^ 64 : Nat) : Int)).toNat % 2 ^ 53 := by
    rw [BitVec.toNat_and, BitVec.toNat_ofInt, hc, Nat.and_two_pow_sub_one_eq_mod]
  have hv : bits .and .i64 a 9007199254740991 = ((a % ((2 ^ 64 : Nat) : Int)).toNat % 2 ^ 53 : Nat) := by
    show IntKind.i64.wrap ((BitVec.ofInt 64 a &&& BitVec.ofInt 64 9007199254740991).toNat : Nat) = _
    rw [key, IntKind.wrap_i64]
    omega
  exact ⟨_, hv, Nat.mod_lt _ (by decide)⟩
theorem neg_small (y : Nat) (hy : y < 2 ^ 53) : wrap64 (-(y : Int)) = -(y : Int) := by unfold wrap64; omega
theorem orders_j0 (k : Nat) (a0 a1 : Int) (s t : ByteArray) (h0 : s.size ≤ 65536) (h1 : t.size ≤ 65536) : stolelaw18_CallOrders.j0 (k + 1) a0 a1 s t false = some true := by
  obtain ⟨x, ex, hx⟩ := and53 a0
  obtain ⟨y, ey, hy⟩ := and53 a1
  rw [stolelaw18_CallOrders.j0, if_neg (by decide), ex, ey, neg_small y hy, bindC _ _ _ (num18_eq _), bindC _ _ _ (num18_eq _)]
  have hxx := once_num (x : Int) (x : Int) true (by omega) (by omega) (by omega) (by omega) (beq_self_eq_true _).symm
  by_cases c : x = 0
  · rw [if_pos (by omega)]
    have hs : ((y : Int) == 0) = ((x : Int) == -(y : Int)) := by
      by_cases d : y = 0
      · subst d; subst c; rfl
      · rw [beq_eq_false_iff_ne.2 (by omega : (y : Int) ≠ 0), beq_eq_false_iff_ne.2 (by omega : (x : Int) ≠ -(y : Int))]
    rw [bindC _ _ _ (once_num (x : Int) (-(y : Int)) _ (by omega) (by omega) (by omega) (by omega) hs), if_pos rfl, bindC _ _ _ (text18_eq _), bindC _ _ _ (text18_eq _), bindC _ _ _ (once_text s t h0 h1), if_pos rfl, bindC _ _ _ hxx]
  · rw [if_neg (by omega)]
    have hs : false = ((x : Int) == -(y : Int)) := (beq_eq_false_iff_ne.2 (by omega)).symm
    rw [bindC _ _ _ (once_num (x : Int) (-(y : Int)) _ (by omega) (by omega) (by omega) (by omega) hs), if_pos rfl, bindC _ _ _ (text18_eq _), bindC _ _ _ (text18_eq _), bindC _ _ _ (once_text s t h0 h1), if_pos rfl, bindC _ _ _ hxx]
theorem orders_true (k : Nat) (a0 a1 : Int) (s t : ByteArray) : stolelaw18_CallOrders.j0 (k + 1) a0 a1 s t true = some true := by
  rw [stolelaw18_CallOrders.j0, if_pos rfl]
theorem CallOrders : stolelaw18_CallOrders.Pure := by
  intro a0 a1 s t w0 w1 w2 w3
  refine ⟨1, ?_⟩
  unfold stolelaw18_CallOrders.f
  rw [bindC _ _ _ (show stolelaw18_awake.f = some true from rfl), if_pos rfl]
  by_cases c1 : s.size ≤ 65536
  · rw [if_neg (by omega)]
    by_cases c2 : t.size ≤ 65536
    · have d : decide ((t.size : Int) > 65536) = false := decide_eq_false (by omega)
      rw [d]
      exact orders_j0 0 a0 a1 s t c1 c2
    · have d : decide ((t.size : Int) > 65536) = true := decide_eq_true (by omega)
      rw [d]
      exact orders_true 0 a0 a1 s t
  · rw [if_pos (by omega)]
    exact orders_true 0 a0 a1 s t
end Go.Proofs.YtepolmajebdphaaDoor.Pure
