/- Values, the plain laws: of a copy that is cut at forty levels; of what Get finds. -/
import Derived.Test.YtepolmajebdphaaDoorPureV
import Derived.Test.YtepolmajebdphaaDoorSpoil
namespace Go.Proofs.YtepolmajebdphaaDoor.PureV
open Go.RowKit Go.Proofs.YtepolmajebdphaaDoor.Q Go.Proofs.YtepolmajebdphaaDoor.Real Go.Proofs.YtepolmajebdphaaDoor.RealPure Go.Proofs.YtepolmajebdphaaDoor.Values Go.Proofs.YtepolmajebdphaaDoorW.PrintWords Go.Proofs.YtepolmajebdphaaDoorW.PrintLast Go.Proofs.YtepolmajebdphaaDoorW.PrintMore
set_option linter.unusedSimpArgs false
set_option linter.unusedVariables false
theorem eqFrom_refl (l : List ByteArray) : ∀ m i, eqFrom l l m i = true
  | 0, _ => rfl
  | m + 1, i => by unfold eqFrom; rw [eqFrom_refl l m (i + 1), beq_self_eq_true]; rfl
theorem texts_refl (l : List ByteArray) : textsB l l = true := by unfold textsB; rw [eqFrom_refl, decide_eq_true rfl]; rfl
theorem sameL_refl (f : V → V → Bool) : ∀ l : List V, (∀ z ∈ l, f z z = true) → sameL f l l = true
  | [], _ => rfl
  | y :: ys, h => by unfold sameL; rw [h y List.mem_cons_self, sameL_refl f ys (fun z hz => h z (List.mem_cons_of_mem _ hz))]; rfl
theorem sv_refl : ∀ d x, deepD d x → svD d x x = true
  | 0, x, h => h.elim
  | d + 1, x, h => by
    unfold svD
    rw [texts_refl, sameL_refl (svD d) x.f4 (fun z hz => sv_refl d z (h z hz))]
    simp
/-- The copy's words are the tree's. -/
theorem trunc_words (d : Nat) (a : V) : (truncD d a).f0 = a.f0 ∧ (truncD d a).f1 = a.f1 ∧ (truncD d a).f2 = a.f2 ∧ (truncD d a).f3 = a.f3 ∧ (truncD d a).f5 = a.f5 := by
  cases d <;> exact ⟨rfl, rfl, rfl, rfl, rfl⟩
theorem trunc_text (a : V) : (if mayB (truncD 40 a) = true then saidS (truncD 40 a) else ⟨#[]⟩) = (if mayB a = true then saidS a else ⟨#[]⟩) ∧ (if mayB (truncD 40 a) = true then saidE (truncD 40 a) else 400) = (if mayB a = true then saidE a else 400) := by
  rw [trunc_may]
  by_cases h : mayB a = true
  · rw [trunc_of_may h]; exact ⟨rfl, rfl⟩
  · rw [if_neg h, if_neg h, if_neg h, if_neg h]; exact ⟨rfl, rfl⟩
theorem trunc_less (a b : V) : lessB (truncD 40 a) (truncD 40 b) = lessB a b ∧ lessE (truncD 40 a) (truncD 40 b) = lessE a b := by
  unfold lessB lessE
  obtain ⟨e0, e1, e2, e3, _⟩ := trunc_words 40 a
  obtain ⟨g0, g1, g2, g3, _⟩ := trunc_words 40 b
  rw [trunc_may, trunc_may, e0, e1, e2, e3, g0, g1, g2, g3]
  exact ⟨rfl, rfl⟩
theorem trunc_get (a : V) (ps : List ByteArray) : getR (truncD 40 a) ps = getR a ps := by
  unfold getR
  rw [trunc_may]
  by_cases h : ps.length ≤ 8 ∧ mayB a = true
  · rw [trunc_of_may h.2]
  · rw [if_neg h, if_neg h]
theorem trunc_true (a : V) : (mayB (truncD 40 a) && truthB (truncD 40 a)) = (mayB a && truthB a) := by
  rw [trunc_may]
  cases h : mayB a
  · rfl
  · rw [trunc_of_may h]
theorem trunc_same2 (a b : V) : (mayB (truncD 40 a) && mayB (truncD 40 b) && sameD 8 (truncD 40 a) (truncD 40 b)) = (mayB a && (mayB b && refS 8 a b)) := by
  rw [same_may, trunc_may, trunc_may]
  cases h : mayB a
  · rfl
  cases h' : mayB b
  · rfl
  rw [trunc_of_may h, trunc_of_may h']
theorem trunc_deep : ∀ (d : Nat) (x : V), deepD (d + 1) (truncD d x)
  | 0, x => fun z hz => by cases hz
  | d + 1, x => fun z hz => by
    obtain ⟨y, hy, rfl⟩ := List.mem_map.1 hz
    exact trunc_deep d y
theorem rng_trunc : ∀ (e d : Nat) (x : V), rngD d x → rngD d (truncD e x)
  | _, 0, _, _ => trivial
  | 0, d + 1, x, h => ⟨h.1, h.2.1, fun z hz => by cases hz⟩
  | e + 1, d + 1, x, h => ⟨h.1, h.2.1, fun z hz => by
    obtain ⟨y, hy, rfl⟩ := List.mem_map.1 hz
    exact rng_trunc e d y (h.2.2 y hy)⟩
/-- What Get finds is a tree that may be, or none. -/
theorem atR_okG : ∀ (ps : List ByteArray) (d : Nat) (x : V), okG d x → ∃ d', d' ≤ d ∧ (okG d' (atR x ps).1 ∨ (atR x ps).1 = z26)
  | [], d, x, h => ⟨d, Nat.le_refl _, .inl h⟩
  | k :: ks, 0, x, h => h.elim
  | k :: ks, d + 1, x, h => by
    obtain ⟨hx, ix⟩ := h
    unfold atR
    by_cases h6 : x.f0 = 6
    case neg => rw [beq_eq_false_iff_ne.2 h6]; exact ⟨d + 1, Nat.le_refl _, .inr rfl⟩
    rw [beq_iff_eq.2 h6, if_pos rfl]
    obtain ⟨hk, l5, l4⟩ := own_six hx h6
    rcases search_cases x.f5 k (by omega) hk with ⟨i, e, hi, ek⟩ | ⟨e, hn⟩
    · rw [e, if_pos rfl]
      obtain ⟨d', hd, h⟩ := atR_okG ks d _ (ix _ (getD_mem x.f4 i (by omega)))
      exact ⟨d', by omega, h⟩
    · rw [e]
      exact ⟨d + 1, Nat.le_refl _, .inr rfl⟩
theorem okG_deep : ∀ (d : Nat) (x : V), okG d x → deepD d x
  | 0, _, h => h.elim
  | d + 1, x, h => fun z hz => okG_deep d z (h.2 z hz)
theorem own_keys {x : V} (h : ownB x = true) : ∀ k ∈ x.f5, k.size ≤ 32 := by
  intro k hk
  by_cases h6 : x.f0 = 6
  · obtain ⟨hkb, _, _⟩ := own_six h h6
    obtain ⟨j, hj, rfl⟩ := List.getElem_of_mem hk
    have := keys_at x.f5 x.f5.length 0 hkb j (by omega) (by omega)
    unfold okAt at this
    simp only [Bool.and_eq_true, decide_eq_true_eq] at this
    have h2 := this.1.2
    rw [List.getD_eq_getElem?_getD, List.getElem?_eq_getElem hj] at h2
    exact h2
  · unfold ownB plainB at h
    simp only [Bool.and_eq_true, Bool.or_eq_true, beq_iff_eq] at h
    have h0 := h.1.1.2.resolve_left h6
    have : x.f5 = [] := List.eq_nil_of_length_eq_zero (by omega)
    rw [this] at hk; cases hk
theorem okG_ksz : ∀ (d : Nat) (x : V), okG d x → kszD 32 d x
  | 0, _, h => h.elim
  | d + 1, x, h => ⟨own_keys h.1, fun z hz => okG_ksz d z (h.2 z hz)⟩
theorem sumN_bound (f : V → Nat) (M : Nat) : ∀ l : List V, (∀ z ∈ l, f z ≤ M) → sumN f l ≤ l.length * M
  | [], _ => by simp [sumN]
  | y :: ys, h => by
    have h1 := h y List.mem_cons_self
    have h2 := sumN_bound f M ys fun z hz => h z (List.mem_cons_of_mem _ hz)
    rw [show sumN f (y :: ys) = f y + sumN f ys from rfl, List.length_cons, Nat.succ_mul]
    omega
theorem nodes_bound : ∀ (d : Nat) (x : V), okG d x → nodesD d x ≤ 65 ^ d
  | 0, _, h => h.elim
  | d + 1, x, h => by
    have h1 := sumN_bound (nodesD d) (65 ^ d) x.f4 fun z hz => nodes_bound d z (h.2 z hz)
    have h4 : x.f4.length ≤ 64 := by
      have := h.1
      unfold ownB at this
      simp only [Bool.and_eq_true, decide_eq_true_eq] at this
      exact this.1.2
    have h2 : x.f4.length * 65 ^ d ≤ 64 * 65 ^ d := Nat.mul_le_mul_right _ h4
    have h3 : 1 ≤ 65 ^ d := Nat.pos_of_ne_zero (by simp)
    rw [show nodesD (d + 1) x = 1 + sumN (nodesD d) x.f4 from rfl, Nat.pow_succ]
    omega
/-- SpoilValue of what Get found: of blocks of one's own. -/
theorem spoil_get (a : V) (ps : List ByteArray) (i0 i1 u2 : Int) (s3 : ByteArray) (v4 v5 : Value) (W W2 : World) (base : Nat) (ok ok' : Nat → Prop) (h4 : Kd.R k26 26 W base ok v4 (getR a ps).1.f4) (h5 : Kd.R Kd.string 9 W base ok' v5 (getR a ps).1.f5)
    (hb : Below W.heap.size W W2) (hbase : base ≤ W.heap.size) :
    Calls Tryd.prog 27 #[.agg #[.int .i64 i0, .int .i64 i1, .int .u64 u2, .string s3, v4, v5]] W2 fun e W' => e = .returned (.tuple #[]) ∧ Below base W2 W' := by
  have g4 := Kd.R_move (Kd.R_bound h4) (fun k hk => hb.block k hk.2.2.1)
  have g5 := Kd.R_move (Kd.R_bound h5) (fun k hk => hb.block k hk.2.2.1)
  have hb2 : base ≤ W2.heap.size := Nat.le_trans hbase hb.size
  have hU : (∃ d, d + 1 ≤ 8 ∧ okG (d + 1) (getR a ps).1) ∨ (getR a ps).1 = z26 := by
    unfold getR
    by_cases h : ps.length ≤ 8 ∧ mayB a = true
    · rw [if_pos h]
      obtain ⟨d, hd, h | h⟩ := atR_okG ps 8 a (okG_of_may 8 a 1024 h.2)
      · cases d with
        | zero => exact h.elim
        | succ d => exact .inl ⟨d, hd, h⟩
      · exact .inr h
    · rw [if_neg h]; exact .inr rfl
  generalize (getR a ps).1 = U at *
  rcases hU with ⟨d, hd, hg⟩ | rfl
  · have hs4 := sh_vals (B := 32) d (fun z hz => ⟨okG_deep d z (hg.2 z hz), okG_ksz d z (hg.2 z hz)⟩) g4
    have hs5 := sh_texts (B := 32) g5 (own_keys hg.1)
    have hn : 32 + nodesD (d + 1) U ≤ 4611686018427387904 := by
      have h1 := nodes_bound (d + 1) U hg
      have h2 : 65 ^ (d + 1) ≤ 65 ^ 8 := Nat.pow_le_pow_right (by decide) hd
      have h3 : (65 : Nat) ^ 8 = 318644812890625 := by decide
      omega
    exact (spoil_all (d + 1) U i0 i1 u2 s3 v4 v5 32 base W2.heap.size W2 hs4 hs5 hn hb2 (Nat.le_refl _)).mono fun e W' h => ⟨h.1, h.2.1⟩
  · have hs4 := sh_vals (B := 32) 0 (fun z hz => by cases hz) g4
    have hs5 := sh_texts (B := 32) g5 (fun z hz => by cases hz)
    exact (spoil_all 1 z26 i0 i1 u2 s3 v4 v5 32 base W2.heap.size W2 hs4 hs5 (by decide) hb2 (Nat.le_refl _)).mono fun e W' h => ⟨h.1, h.2.1⟩
end Go.Proofs.YtepolmajebdphaaDoor.PureV
