/- Numbers and texts: the law ValueOrders, over numbers and texts alone. -/
import Derived.Test.YtepolmajebdphaaDoorQ5
import Derived.Test.YtepolmajebdphaaDoorRefDecimal
import Derived.Test.YtepolmajebdphaaDoorPureValueReals
namespace Go.Proofs.YtepolmajebdphaaDoor.Pure
set_option linter.unusedSimpArgs false
set_option linter.unusedVariables false
open Go.RowKit Go.Proofs.YtepolmajebdphaaDoor.Q Go.Proofs.YtepolmajebdphaaDoor.Real Go.Proofs.YtepolmajebdphaaDoor.RealPure Go.Proofs.YtepolmajebdphaaDoor.PureReals Go.Proofs.YtepolmajebdphaaDoor.RefReals Go.Proofs.YtepolmajebdphaaDoor.Values Go.Proofs.YtepolmajebdphaaDoorW.PrintWords Go.Proofs.YtepolmajebdphaaDoorW.PrintLast Go.Proofs.YtepolmajebdphaaDoorW.PrintMore

def nV (a : Int) : V := ⟨2, a, 0, ⟨#[]⟩, [], []⟩
def tV (s : ByteArray) : V := ⟨4, 0, 0, s, [], []⟩
theorem own_num (a : Int) : ownB (nV a) = intB a := by
  have h : plainB (nV a) = true := by kernel_rfl
  unfold ownB
  rw [h]
  simp [nV]
theorem own_text (s : ByteArray) : ownB (tV s) = decide (s.size ≤ 65536) := by
  have h : plainB (tV s) = true := by kernel_rfl
  unfold ownB
  rw [h]
  simp [tV]
  exact decide_eq_decide.2 Iff.rfl
theorem may_of_own (x : V) (h4 : x.f4 = []) : mayB x = ownB x := by
  unfold mayB
  rw [mayD, if_neg (by decide), h4]
  cases ownB x <;> rfl
theorem may_num (a : Int) (h0 : -9007199254740991 ≤ a) (h1 : a ≤ 9007199254740991) : mayB (nV a) = true := by
  rw [may_of_own _ rfl, own_num]
  unfold intB
  rw [decide_eq_true h0, decide_eq_true h1]; rfl
theorem may_text (s : ByteArray) : mayB (tV s) = decide (s.size ≤ 65536) := by rw [may_of_own _ rfl, own_text]
theorem num4_eq (x : Int) : stolelaw4_num.f x = some (2, x, 0, ⟨#[]⟩, [], []) := rfl
theorem text4_eq (s : ByteArray) : stolelaw4_text.f s = some (4, 0, 0, s, [], []) := rfl
theorem less_num (a b : Int) (h0 : -9007199254740991 ≤ a) (h1 : a ≤ 9007199254740991) (h2 : -9007199254740991 ≤ b) (h3 : b ≤ 9007199254740991) : value_Less.f 2 a 0 ⟨#[]⟩ [] [] 2 b 0 ⟨#[]⟩ [] [] = some (decide (a < b), 0) := by
  show some (lessB (nV a) (nV b), lessE (nV a) (nV b)) = _
  unfold lessB lessE
  rw [may_num a h0 h1, may_num b h2 h3]
  rfl
theorem less_text (s t : ByteArray) : value_Less.f 4 0 0 s [] [] 4 0 0 t [] [] = some (if s.size ≤ 65536 ∧ t.size ≤ 65536 then (Op.bytesLess s.toList t.toList, 0) else (false, 400)) := by
  show some (lessB (tV s) (tV t), lessE (tV s) (tV t)) = _
  unfold lessB lessE
  rw [may_text s, may_text t]
  by_cases c1 : s.size ≤ 65536
  · by_cases c2 : t.size ≤ 65536
    · simp [tV, c1, c2]
    · simp [tV, c1, c2]
  · simp [tV, c1]
theorem rng_leaf (x : V) (h4 : x.f4 = []) (h2 : x.f2 = 0) : rngB 8 x = true := by
  unfold rngB
  rw [h4, h2]; rfl
theorem same_of (x y : V) (h4 : x.f4 = []) (h2 : x.f2 = 0) (h4' : y.f4 = []) (h2' : y.f2 = 0) (hm : mayB x = true) (hm' : mayB y = true) : value_Same.f x.f0 x.f1 x.f2 x.f3 x.f4 x.f5 y.f0 y.f1 y.f2 y.f3 y.f4 y.f5 = some (sameD 8 x y) := by
  show (if rngB 8 x = true ∧ rngB 8 y = true then some (mayB x && mayB y && sameD 8 x y) else none) = _
  rw [if_pos ⟨rng_leaf x h4 h2, rng_leaf y h4' h2'⟩, hm, hm']
  rfl
theorem same_num (a b : Int) (h0 : -9007199254740991 ≤ a) (h1 : a ≤ 9007199254740991) (h2 : -9007199254740991 ≤ b) (h3 : b ≤ 9007199254740991) : value_Same.f 2 a 0 ⟨#[]⟩ [] [] 2 b 0 ⟨#[]⟩ [] [] = some (a == b) := by
  refine (same_of (nV a) (nV b) rfl rfl rfl rfl (may_num a h0 h1) (may_num b h2 h3)).trans ?_
  congr 1
  show ((a == b && (⟨#[]⟩ : ByteArray).toList == (⟨#[]⟩ : ByteArray).toList) && equalB [] [] && sameL (sameD 7) [] []) = _
  rw [beq_self_eq_true (⟨#[]⟩ : ByteArray).toList]
  cases (a == b) <;> rfl
theorem same_text (s t : ByteArray) (h0 : s.size ≤ 65536) (h1 : t.size ≤ 65536) : value_Same.f 4 0 0 s [] [] 4 0 0 t [] [] = some (s.toList == t.toList) := by
  refine (same_of (tV s) (tV t) rfl rfl rfl rfl (by rw [may_text]; exact decide_eq_true h0) (by rw [may_text]; exact decide_eq_true h1)).trans ?_
  congr 1
  show ((((0 : Int) == 0) && s.toList == t.toList) && equalB [] [] && sameL (sameD 7) [] []) = _
  cases (s.toList == t.toList) <;> rfl
theorem same_num_text (a : Int) (t : ByteArray) (h0 : -9007199254740991 ≤ a) (h1 : a ≤ 9007199254740991) : value_Same.f 2 a 0 ⟨#[]⟩ [] [] 4 0 0 t [] [] = some false := by
  show (if rngB 8 (nV a) = true ∧ rngB 8 (tV t) = true then some (mayB (nV a) && mayB (tV t) && sameD 8 (nV a) (tV t)) else none) = _
  rw [if_pos ⟨rng_leaf _ rfl rfl, rng_leaf _ rfl rfl⟩, may_num a h0 h1, may_text]
  have e : sameD 8 (nV a) (tV t) = false := rfl
  rw [e]
  cases decide (t.size ≤ 65536) <;> rfl
theorem and53 (a : Int) : ∃ K : Nat, bits .and .i64 a 9007199254740991 = (K : Int) ∧ K < 2 ^ 53 := by
  have hc : (BitVec.ofInt 64 9007199254740991).toNat = 2 ^ 53 - 1 := by decide
  have key : (BitVec.ofInt 64 a &&& BitVec.ofInt 64 9007199254740991).toNat = (a % ((2 ^ 64 : Nat) : Int)).toNat % 2 ^ 53 := by
    rw [BitVec.toNat_and, BitVec.toNat_ofInt, hc, Nat.and_two_pow_sub_one_eq_mod]
  have hv : bits .and .i64 a 9007199254740991 = ((a % ((2 ^ 64 : Nat) : Int)).toNat % 2 ^ 53 : Nat) := by
    show IntKind.i64.wrap ((BitVec.ofInt 64 a &&& BitVec.ofInt 64 9007199254740991).toNat : Nat) = _
    rw [key, IntKind.wrap_i64]
    omega
  exact ⟨_, hv, Nat.mod_lt _ (by decide)⟩
theorem neg_small (y : Nat) (hy : y < 2 ^ 53) : wrap64 (-(y : Int)) = -(y : Int) := by unfold wrap64; omega
theorem orders_true (k : Nat) (s t : ByteArray) (x y : Int) (p : Bool) (e : Int) (q : Bool) : stolelaw4_ValueOrders.j0 (k + 1) s t x y p e q 400 true = some true := by
  rw [stolelaw4_ValueOrders.j0, if_pos rfl, bindS _ _ _ (num_eq _)]
  rfl
theorem orders_false (s t : ByteArray) (x y : Nat) (hx : x < 2 ^ 53) (hy : y < 2 ^ 53) (hs : s.size ≤ 65536) (ht : t.size ≤ 65536) :
    stolelaw4_ValueOrders.j0 31 s t (x : Int) (y : Int) (decide ((x : Int) < -(y : Int))) 0 (Op.bytesLess s.toList t.toList) 0 false = some true := by
  rw [stolelaw4_ValueOrders.j0, if_neg (by decide), bindS _ _ _ (num_eq _), if_pos rfl, neg_small y hy, if_pos (beq_self_eq_true _), bindS _ _ _ (num_eq _), if_pos rfl, if_pos (beq_self_eq_true _)]
  rw [bindS _ _ _ (num4_eq _), bindS _ _ _ (num4_eq _), bindS _ _ _ (same_num (x : Int) (y : Int) (by omega) (by omega) (by omega) (by omega)), if_pos (beq_self_eq_true _)]
  rw [bindS _ _ _ (text4_eq _), bindS _ _ _ (text4_eq _), bindS _ _ _ (same_text s t hs ht), if_pos (beq_self_eq_true _)]
  rw [bindS _ _ _ (num4_eq _), bindS _ _ _ (decimal_f x (by omega) 30 (by omega)), bindS _ _ _ (text4_eq _), bindS _ _ _ (same_num_text (x : Int) _ (by omega) (by omega))]
  rfl
theorem ValueOrders : stolelaw4_ValueOrders.Pure := by
  intro a0 a1 s t w0 w1 w2 w3
  obtain ⟨x, ex, hx⟩ := and53 a0
  obtain ⟨y, ey, hy⟩ := and53 a1
  refine ⟨31, ?_⟩
  unfold stolelaw4_ValueOrders.f
  rw [bindS _ _ _ (show stolelaw4_awake.f = some true from rfl), if_pos rfl, ex, ey, neg_small y hy]
  rw [bindS _ _ _ (num4_eq _), bindS _ _ _ (num4_eq _), bindS _ _ _ (less_num (x : Int) (-(y : Int)) (by omega) (by omega) (by omega) (by omega)), bindS _ _ _ (text4_eq _), bindS _ _ _ (text4_eq _), bindS _ _ _ (less_text s t)]
  by_cases c1 : s.size ≤ 65536
  · rw [if_neg (by omega)]
    by_cases c2 : t.size ≤ 65536
    · have d : decide ((t.size : Int) > 65536) = false := decide_eq_false (by omega)
      rw [d, if_pos ⟨c1, c2⟩]
      exact orders_false s t x y hx hy c1 c2
    · have d : decide ((t.size : Int) > 65536) = true := decide_eq_true (by omega)
      rw [d, if_neg (fun h => c2 h.2)]
      exact orders_true 30 s t _ _ _ _ _
  · rw [if_pos (by omega), if_neg (fun h => c1 h.1)]
    exact orders_true 30 s t _ _ _ _ _
end Go.Proofs.YtepolmajebdphaaDoor.Pure
