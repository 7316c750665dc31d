/- stolelaw4.ValueForms, walked: it answers true, whatever the two numbers. -/
import Derived.Test.YtepolmajebdphaaDoorAwake4
import Derived.Test.YtepolmajebdphaaDoorValuesV
import Derived.Deep.CutBlock
namespace Go.Proofs.YtepolmajebdphaaDoor.Values
open Go.RowKit Go.Proofs.YtepolmajebdphaaDoor.Q Go.Proofs.YtepolmajebdphaaDoor.Real Go.Proofs.YtepolmajebdphaaDoor.RealPure Go.Proofs.YtepolmajebdphaaDoorW.PrintWords Go.Proofs.YtepolmajebdphaaDoorW.PrintLast Go.Proofs.YtepolmajebdphaaDoorW.PrintMore
set_option linter.unusedSimpArgs false
set_option linter.unusedVariables false
set_option maxRecDepth 100000

/-! ### rows in blocks -/
theorem row_blockV {W : World} {g : Nat} {xs : List V} {cs : List Value} (hg : W.heap[g]? = some (.cells cs.toArray 26 (0, 0))) (h : Reps (k26.K W) 6 xs cs) (hl : xs.length ≤ 9223372036854775807) : Kd.C k26 W (some ⟨g, 0, none⟩) xs.length xs := by
  refine ⟨rfl, hl, fun _ => ⟨⟨g, 0, none⟩, rfl, fun j p hj => ⟨(cs.drop (j * 6)).take 6, ?_, h.2 j p hj, fun i u hu => ?_⟩⟩⟩
  · have hjl := (List.getElem?_eq_some_iff.1 hj).1
    have h1 : j * 6 + 6 ≤ cs.length := by rw [h.1, ← Nat.succ_mul]; exact Nat.mul_le_mul_right _ hjl
    show ((cs.drop (j * 6)).take 6).length = 6
    rw [List.length_take, List.length_drop]
    omega
  · rw [List.getElem?_take] at hu
    split at hu
    · rw [List.getElem?_drop] at hu
      show W.cell? ((⟨g, 0, none⟩ : Addr).add (j * 6 + i)) = some u
      rw [Addr.add_lit, blk_cell hg _]
      simpa using hu
    · cases hu
theorem row_blockT {W : World} {g n : Nat} {xs : List ByteArray} {cs : List Value} (hg : W.heap[g]? = some (.cells cs.toArray 9 (0, 0))) (h : ∀ (j : Nat) (p : ByteArray), xs[j]? = some p → cs[j]? = some (Value.string p)) (hn : xs.length = n) (hl : n ≤ 9223372036854775807) : Kd.C Kd.string W (some ⟨g, 0, none⟩) n xs := by
  refine ⟨hn, hl, fun _ => ⟨⟨g, 0, none⟩, rfl, fun j p hj => ⟨[.string p], rfl, rfl, fun i u hu => ?_⟩⟩⟩
  rcases i with _ | i
  · obtain rfl : Value.string p = u := Option.some.inj hu
    show W.cell? ((⟨g, 0, none⟩ : Addr).add (j * 1 + 0)) = _
    rw [Addr.add_lit, blk_cell hg _]
    have := h j p hj
    simpa using this
  · simp at hu
theorem reps2V {W : World} {x y : V} {c0 c1 c2 c3 c4 c5 d0 d1 d2 d3 d4 d5 : Value} (hx : k26.K W x [c0, c1, c2, c3, c4, c5]) (hy : k26.K W y [d0, d1, d2, d3, d4, d5]) : Reps (k26.K W) 6 [x, y] [c0, c1, c2, c3, c4, c5, d0, d1, d2, d3, d4, d5] := by
  refine ⟨rfl, fun j p hj => ?_⟩
  rcases j with _ | _ | j
  · obtain rfl : x = p := Option.some.inj hj
    exact hx
  · obtain rfl : y = p := Option.some.inj hj
    exact hy
  · simp at hj
theorem leafV (W : World) (y : V) (h4 : y.f4 = []) (h5 : y.f5 = []) : k26.K W y [.int .i64 y.f0, .int .i64 y.f1, .int .u64 y.f2, .string y.f3, .slice none 0 0, .slice none 0 0] := by
  have := k26_mk W y (A4 := none) (c4 := 0) (by rw [h4]; exact Nat.le_refl _) (by rw [h4]; exact Kd.C_nil _ _) (A5 := none) (c5 := 0) (by rw [h5]; exact Nat.le_refl _) (by rw [h5]; exact Kd.C_nil _ _)
  rw [h4, h5] at this
  exact this

/-! ### zeros that are made -/
def zs (n : Nat) : ByteArray := ⟨(List.replicate n (0 : UInt8)).toArray⟩
theorem zs_size (n : Nat) : (zs n).size = n := by unfold zs; show (List.replicate n (0 : UInt8)).toArray.size = n; simp
theorem made_bytes (n : Int) (h0 : 0 ≤ n) (h1 : n ≤ 70000) (W : World) : (Instr.makeSlice 57 (.int .i64 n) (.int .i64 n)).run Tryd.prog W = .ok (.slice (some ⟨W.heap.size, 0, none⟩) n.toNat n.toNat) (W.alloc (.cells (madeCells #[.int .u8 0] n.toNat) 5)) := by
  obtain ⟨i0, hi, hz0, hz1, hz2⟩ := info_parts (by kernel_rfl : (Tryd.prog.info? 5).map (fun i => (i.zero, i.size, i.bytes)) = some (some (.int .u8 0), 1, 1))
  have := run_make (P := Tryd.prog) W 57 5 i0 (.int .u8 0) Tryd.underlying57 hi hz0 .i64 .i64 n n h0 (Int.le_refl _) (by rw [hz2]; omega) (by omega)
  rw [hz1, Nat.mul_one] at this
  exact this
theorem conv_bytes (W : World) (g n c : Nat) (h : W.heap[g]? = some (.cells (madeCells #[.int .u8 0] n) 5 (0, 0))) : (convert 57 9 (.slice (some ⟨g, 0, none⟩) n c)).run Tryd.prog W = .ok (.string (zs n)) W := by
  have := run_convert_bytes_back (P := Tryd.prog) W 57 9 5 ⟨g, 0, none⟩ c (List.replicate n (0 : UInt8)) Tryd.underlying57 Tryd.underlying5 Tryd.underlying9 (fun j hj => by
    rw [Addr.add_lit, blk_cell h _]
    simp at hj
    simp [madeCells, hj, Nat.mod_one])
  rw [List.length_replicate] at this
  exact this
theorem made_vals (n : Int) (h0 : 0 ≤ n) (h1 : n ≤ 70000) (W : World) : (Instr.makeSlice 23 (.int .i64 n) (.int .i64 n)).run Tryd.prog W = .ok (.slice (some ⟨W.heap.size, 0, none⟩) n.toNat n.toNat) (W.alloc (.cells (madeCells #[.int .i64 0, .int .i64 0, .int .u64 0, .string ⟨#[]⟩, .slice none 0 0, .slice none 0 0] (n.toNat * 6)) 26)) := by
  obtain ⟨i0, hi, hz0, hz1, hz2⟩ := info_parts Q.info26
  have := run_make (P := Tryd.prog) W 23 26 i0 _ Tryd.underlying23 hi hz0 .i64 .i64 n n h0 (Int.le_refl _) (by rw [hz2]; omega) (by omega)
  rw [hz1] at this
  exact this
theorem zeros_rows (W : World) (g n : Nat) (hn : n ≤ 70000) (h : W.heap[g]? = some (.cells (madeCells #[.int .i64 0, .int .i64 0, .int .u64 0, .string ⟨#[]⟩, .slice none 0 0, .slice none 0 0] (n * 6)) 26 (0, 0))) : Kd.C k26 W (some ⟨g, 0, none⟩) n (List.replicate n z26) := by
  refine ⟨by simp, by omega, fun _ => ⟨⟨g, 0, none⟩, rfl, fun j p hj => ⟨[.int .i64 0, .int .i64 0, .int .u64 0, .string ⟨#[]⟩, .slice none 0 0, .slice none 0 0], rfl, ?_, fun i u hu => ?_⟩⟩⟩
  · have hp : p = z26 := by
      have := List.mem_of_getElem? hj
      exact (List.mem_replicate.1 this).2
    subst hp
    exact leafV W z26 rfl rfl
  · have hjn : j < n := by have := (List.getElem?_eq_some_iff.1 hj).1; simpa using this
    have hi : i < 6 := (List.getElem?_eq_some_iff.1 hu).1
    show W.cell? ((⟨g, 0, none⟩ : Addr).add (j * 6 + i)) = some u
    rw [Addr.add_lit, blk_cell h _]
    have e : (j * 6 + i) % 6 = i := by omega
    have l : j * 6 + i < n * 6 := by omega
    rcases i with _ | _ | _ | _ | _ | _ | i
    all_goals first | omega | (obtain rfl := Option.some.inj hu; unfold madeCells; rw [Array.getElem?_map, Array.getElem?_range, Nat.zero_add, if_pos l]; simp [e])

/-! ### values that may not be -/
theorem own_of_mayD {d : Nat} {z : V} {l : Int} (h : (mayD (d + 1) z l).1 = true) : ownB z = true := by
  unfold mayD at h
  split at h
  · cases h
  · split at h
    · assumption
    · cases h
theorem bad_own {x : V} (h : ownB x = false) : mayB x = false := by
  cases hm : mayB x with
  | false => rfl
  | true => rw [own_of_mayD hm] at h; cases h
theorem bad_item {x : V} (z : V) (hz : z ∈ x.f4) (h : ownB z = false) : mayB x = false := by
  cases hm : mayB x with
  | false => rfl
  | true =>
    have h1 : (mayD 8 x 1024).1 = true := hm
    unfold mayD at h1
    split at h1
    · cases h1
    · split at h1
      · obtain ⟨l', h2⟩ := may_each _ _ _ h1 z hz
        rw [own_of_mayD h2] at h
        cases h
      · cases h1
/-- A value in its box that may not be. -/
def Bad (w W : World) (gv : Nat) : Prop := ∃ (x : V) (A4 : Option Addr) (c4 : Nat) (A5 : Option Addr) (c5 : Nat), Aside0 (W.heap[gv]? = some (.cells #[.int .i64 x.f0, .int .i64 x.f1, .int .u64 x.f2, .string x.f3, .slice A4 x.f4.length c4, .slice A5 x.f5.length c5] 26 (0, 0))) ∧ Aside0 (Rows4 W x A4 c4 A5 c5) ∧ Aside0 (mayB x = false ∧ rngD 8 x) ∧ Aside0 (Below w.heap.size w W)
theorem bad_of {w W : World} {gk gi gv : Nat} {k0 k1 : ByteArray} {x0 x1 : V} {c0 c1 c2 c3 c4 c5 d0 d1 d2 d3 d4 d5 : Value} (ks : List ByteArray) (f0 f1 f2 : Int)
    (hK : W.heap[gk]? = some (.cells #[.string k0, .string k1] 9 (0, 0))) (hI : W.heap[gi]? = some (.cells #[c0, c1, c2, c3, c4, c5, d0, d1, d2, d3, d4, d5] 26 (0, 0)))
    (hV : W.heap[gv]? = some (.cells #[.int .i64 f0, .int .i64 f1, .int .u64 f2, .string ⟨#[]⟩, .slice (some ⟨gi, 0, none⟩) 2 2, .slice (some ⟨gk, 0, none⟩) ks.length 2] 26 (0, 0)))
    (hB : Below w.heap.size w W) (h0 : k26.K W x0 [c0, c1, c2, c3, c4, c5]) (h1 : k26.K W x1 [d0, d1, d2, d3, d4, d5]) (hks : ∀ (j : Nat) (p : ByteArray), ks[j]? = some p → ([k0, k1] : List ByteArray)[j]? = some p) (hkl : ks.length ≤ 2)
    (hm : mayB ⟨f0, f1, f2, ⟨#[]⟩, [x0, x1], ks⟩ = false) (hr : rngD 8 ⟨f0, f1, f2, ⟨#[]⟩, [x0, x1], ks⟩) : Bad w W gv :=
  ⟨⟨f0, f1, f2, ⟨#[]⟩, [x0, x1], ks⟩, some ⟨gi, 0, none⟩, 2, some ⟨gk, 0, none⟩, 2, ⟨hV⟩, ⟨⟨row_blockV hI (reps2V h0 h1) (by simp), Nat.le_refl _, row_blockT (cs := [.string k0, .string k1]) hK (fun j p hj => by
    have := hks j p hj
    rcases j with _ | _ | j
    · obtain rfl : k0 = p := Option.some.inj this
      rfl
    · obtain rfl : k1 = p := Option.some.inj this
      rfl
    · simp at this) rfl (Nat.le_trans hkl (by decide)), hkl⟩⟩, ⟨hm, hr⟩, ⟨hB⟩⟩
structure Vf (w W : World) (gk gi gv : Nat) : Prop where
  K : W.heap[gk]? = some (.cells #[.string ⟨#[97]⟩, .string ⟨#[98]⟩] 9 (0, 0))
  I : W.heap[gi]? = some (.cells #[.int .i64 2, .int .i64 1, .int .u64 0, .string ⟨#[]⟩, .slice none 0 0, .slice none 0 0, .int .i64 0, .int .i64 0, .int .u64 0, .string ⟨#[]⟩, .slice none 0 0, .slice none 0 0] 26 (0, 0))
  V : W.heap[gv]? = some (.cells #[.int .i64 6, .int .i64 0, .int .u64 0, .string ⟨#[]⟩, .slice (some ⟨gi, 0, none⟩) 2 2, .slice (some ⟨gk, 0, none⟩) 2 2] 26 (0, 0))
  B : Below w.heap.size w W
  lk : w.heap.size ≤ gk
  li : w.heap.size ≤ gi
  lv : w.heap.size ≤ gv
  ki : gk ≠ gi
  kv : gk ≠ gv
  iv : gi ≠ gv
theorem Vf.below {w W W1 : World} {gk gi gv : Nat} (h : Vf w W gk gi gv) (hb : Below W.heap.size W W1) : Vf w W1 gk gi gv :=
  ⟨blk_below h.K hb, blk_below h.I hb, blk_below h.V hb, below_step h.B hb, h.lk, h.li, h.lv, h.ki, h.kv, h.iv⟩
theorem Vf.rows {w W : World} {gk gi gv : Nat} (h : Vf w W gk gi gv) : Rows4 W ⟨6, 0, 0, ⟨#[]⟩, [numV 1, z26], [⟨#[97]⟩, ⟨#[98]⟩]⟩ (some ⟨gi, 0, none⟩) 2 (some ⟨gk, 0, none⟩) 2 :=
  ⟨row_blockV h.I (reps2V (leafV W (numV 1) rfl rfl) (leafV W z26 rfl rfl)) (by simp), Nat.le_refl _, row_blockT (cs := [.string ⟨#[97]⟩, .string ⟨#[98]⟩]) h.K (fun j p hj => by
    rcases j with _ | _ | j
    · obtain rfl : (⟨#[97]⟩ : ByteArray) = p := Option.some.inj hj
      rfl
    · obtain rfl : (⟨#[98]⟩ : ByteArray) = p := Option.some.inj hj
      rfl
    · simp at hj) rfl (by decide), Nat.le_refl _⟩
theorem vfGood : mayB ⟨6, 0, 0, ⟨#[]⟩, [numV 1, z26], [⟨#[97]⟩, ⟨#[98]⟩]⟩ = true := by kernel_rfl
theorem vf_may {w W : World} {gk gi gv : Nat} (h : Vf w W gk gi gv) : Calls Tryd.prog 28 #[.agg #[.int .i64 6, .int .i64 0, .int .u64 0, .string ⟨#[]⟩, .slice (some ⟨gi, 0, none⟩) 2 2, .slice (some ⟨gk, 0, none⟩) 2 2]] W fun e w' => e = .returned (.bool true) ∧ Below W.heap.size W w' := by
  have t := May_calls ⟨6, 0, 0, ⟨#[]⟩, [numV 1, z26], [⟨#[97]⟩, ⟨#[98]⟩]⟩ (some ⟨gi, 0, none⟩) 2 (some ⟨gk, 0, none⟩) 2 W h.rows
  rw [vfGood] at t
  exact t
theorem and63 (a : Int) : ∃ d : Int, wrap64 (1 + bits BinOp.and IntKind.i64 a 63) = d ∧ 1 ≤ d ∧ d ≤ 64 := by
  have hc : (BitVec.ofInt 64 63).toNat = 2 ^ 6 - 1 := by decide
  have key : (BitVec.ofInt 64 a &&& BitVec.ofInt 64 63).toNat = (a % ((2 ^ 64 : Nat) : Int)).toNat % 2 ^ 6 := by
    rw [BitVec.toNat_and, BitVec.toNat_ofInt, hc, Nat.and_two_pow_sub_one_eq_mod]
  have hv : bits .and .i64 a 63 = ((a % ((2 ^ 64 : Nat) : Int)).toNat % 2 ^ 6 : Nat) := by
    show IntKind.i64.wrap ((BitVec.ofInt 64 a &&& BitVec.ofInt 64 63).toNat : Nat) = _
    rw [key, IntKind.wrap_i64]
    omega
  have hlt : (a % ((2 ^ 64 : Nat) : Int)).toNat % 2 ^ 6 < 2 ^ 6 := Nat.mod_lt _ (by decide)
  refine ⟨_, rfl, ?_, ?_⟩ <;> (rw [hv, wrap_small _ (by omega) (by omega)]; omega)
theorem mod15 (a : Int) : ∃ r : Int, Int.tmod (IntKind.u64.wrap a) 15 = r ∧ 0 ≤ r ∧ r < 15 := by
  have e : IntKind.u64.wrap a = a % 18446744073709551616 := rfl
  have h0 : 0 ≤ a % 18446744073709551616 := by omega
  obtain ⟨n, hn⟩ := Int.eq_ofNat_of_zero_le h0
  refine ⟨_, rfl, ?_⟩
  rw [e, hn]
  have e2 : Int.tmod (n : Int) 15 = ((n % 15 : Nat) : Int) := rfl
  rw [e2]
  omega

theorem ks1 {a b : ByteArray} : ∀ (j : Nat) (p : ByteArray), ([a] : List ByteArray)[j]? = some p → ([a, b] : List ByteArray)[j]? = some p := fun j p h => by
  rcases j with _ | j
  · exact h
  · simp at h
theorem ks2 {a b : ByteArray} : ∀ (j : Nat) (p : ByteArray), ([a, b] : List ByteArray)[j]? = some p → ([a, b] : List ByteArray)[j]? = some p := fun _ _ h => h
theorem vfRng (f0 f1 f2 : Int) (s : ByteArray) (x y : V) (ks : List ByteArray) (h0 : 0 ≤ f2) (h1 : f2 < 2 ^ 64) (hx0 : 0 ≤ x.f2) (hx1 : x.f2 < 2 ^ 64) (hy0 : 0 ≤ y.f2) (hy1 : y.f2 < 2 ^ 64) (hx : x.f4 = []) (hy : y.f4 = []) : rngD 8 ⟨f0, f1, f2, s, [x, y], ks⟩ :=
  ⟨h0, h1, fun z hz => by
    simp only [List.mem_cons, List.not_mem_nil, or_false] at hz
    rcases hz with rfl | rfl
    · exact ⟨hx0, hx1, fun z hz => by rw [hx] at hz; cases hz⟩
    · exact ⟨hy0, hy1, fun z hz => by rw [hy] at hz; cases hz⟩⟩
theorem vfRng12 (n : Nat) : rngD 8 ⟨6, 0, 0, ⟨#[]⟩, [numV 1, ⟨5, 0, 0, ⟨#[]⟩, List.replicate n z26, []⟩], [⟨#[97]⟩, ⟨#[98]⟩]⟩ :=
  ⟨by show (0 : Int) ≤ 0; decide, by show (0 : Int) < 2 ^ 64; decide, fun z hz => by
    simp only [List.mem_cons, List.not_mem_nil, or_false] at hz
    rcases hz with rfl | rfl
    · exact ⟨by show (0 : Int) ≤ 0; decide, by show (0 : Int) < 2 ^ 64; decide, fun z hz => by cases hz⟩
    · exact ⟨by show (0 : Int) ≤ 0; decide, by show (0 : Int) < 2 ^ 64; decide, fun z hz => by
        obtain rfl := (List.mem_replicate.1 hz).2
        exact ⟨by show (0 : Int) ≤ 0; decide, by show (0 : Int) < 2 ^ 64; decide, fun z hz => by cases hz⟩⟩⟩
theorem rowV (W : World) (g n : Nat) (h : Kd.C k26 W (some ⟨g, 0, none⟩) n (List.replicate n z26)) : k26.K W ⟨5, 0, 0, ⟨#[]⟩, List.replicate n z26, []⟩ [.int .i64 5, .int .i64 0, .int .u64 0, .string ⟨#[]⟩, .slice (some ⟨g, 0, none⟩) n n, .slice none 0 0] := by
  have := k26_mk W ⟨5, 0, 0, ⟨#[]⟩, List.replicate n z26, []⟩ (A4 := some ⟨g, 0, none⟩) (c4 := n) (by simp) (by simpa using h) (A5 := none) (c5 := 0) (Nat.le_refl _) (Kd.C_nil _ _)
  simpa using this
theorem keyV (W : World) (g : Nat) (h : W.heap[g]? = some (.cells #[.string ⟨#[107]⟩] 9 (0, 0))) : k26.K W ⟨0, 0, 0, ⟨#[]⟩, [], [⟨#[107]⟩]⟩ [.int .i64 0, .int .i64 0, .int .u64 0, .string ⟨#[]⟩, .slice none 0 0, .slice (some ⟨g, 0, none⟩) 1 1] :=
  k26_mk W ⟨0, 0, 0, ⟨#[]⟩, [], [⟨#[107]⟩]⟩ (A4 := none) (c4 := 0) (Nat.le_refl _) (Kd.C_nil _ _) (A5 := some ⟨g, 0, none⟩) (c5 := 1) (Nat.le_refl _) (row_blockT (cs := [.string ⟨#[107]⟩]) h (fun j p hj => by
    rcases j with _ | j
    · obtain rfl : (⟨#[107]⟩ : ByteArray) = p := Option.some.inj hj
      rfl
    · simp at hj) rfl (by decide))
theorem z64 : (0 : Int) < 2 ^ 64 := by decide
theorem own_kind {x : V} (h : x.f0 < 0 ∨ 6 < x.f0) : ownB x = false := by
  have e : ∀ k : Int, 0 ≤ k → k ≤ 6 → (x.f0 == k) = false := fun k h0 h1 => beq_eq_false_iff_ne.2 (by omega)
  unfold ownB
  rw [e 0 (by decide) (by decide), e 1 (by decide) (by decide), e 2 (by decide) (by decide), e 3 (by decide) (by decide), e 4 (by decide) (by decide), e 5 (by decide) (by decide), e 6 (by decide) (by decide)]
  simp
theorem vfBad0 (d : Int) (h1 : 1 ≤ d) (h2 : d ≤ 64) : mayB ⟨6 + d, 0, 0, ⟨#[]⟩, [numV 1, z26], [⟨#[97]⟩, ⟨#[98]⟩]⟩ = false := bad_own (own_kind (.inr (by show 6 < 6 + d; omega)))
theorem vfBad1 (d : Int) (h1 : 1 ≤ d) (h2 : d ≤ 64) : mayB ⟨-d, 0, 0, ⟨#[]⟩, [numV 1, z26], [⟨#[97]⟩, ⟨#[98]⟩]⟩ = false := bad_own (own_kind (.inl (by show -d < 0; omega)))
theorem vfBad2 : mayB ⟨6, 0, 0, ⟨#[]⟩, [numV 1, z26], [⟨#[97]⟩]⟩ = false := by kernel_rfl
theorem vfBad3 : mayB ⟨6, 0, 0, ⟨#[]⟩, [numV 1, z26], [⟨#[97]⟩, ⟨#[97]⟩]⟩ = false := by kernel_rfl
theorem vfBad4 : mayB ⟨6, 0, 0, ⟨#[]⟩, [numV 1, z26], [⟨#[]⟩, ⟨#[98]⟩]⟩ = false := by kernel_rfl
theorem vfBad5 (n : Nat) (h : 32 < n) : mayB ⟨6, 0, 0, ⟨#[]⟩, [numV 1, z26], [⟨#[97]⟩, zs n]⟩ = false := by
  apply bad_own
  have e : keysB [⟨#[97]⟩, zs n] = false := by
    show (okAt [⟨#[97]⟩, zs n] 0 && (okAt [⟨#[97]⟩, zs n] 1 && true)) = false
    have : okAt [⟨#[97]⟩, zs n] 1 = false := by
      unfold okAt
      have : decide (([⟨#[97]⟩, zs n].getD 1 ByteArray.empty).size ≤ 32) = false := decide_eq_false (by show ¬ (zs n).size ≤ 32; rw [zs_size]; omega)
      rw [this]
      simp
    rw [this]
    simp
  unfold ownB
  simp only
  rw [e]
  simp
theorem vfBad6 (d : Int) (h1 : 1 ≤ d) (h2 : d ≤ 64) : mayB ⟨6, 0, 0, ⟨#[]⟩, [numV (9007199254740991 + d), z26], [⟨#[97]⟩, ⟨#[98]⟩]⟩ = false := bad_item (numV (9007199254740991 + d)) (by simp) (by
  unfold ownB
  have e : intB (9007199254740991 + d) = false := by
    unfold intB
    have : decide (9007199254740991 + d ≤ 9007199254740991) = false := decide_eq_false (by omega)
    rw [this, Bool.and_false]
  simp only [numV, e]
  simp)
theorem vfBad7 (d : Int) (h1 : 1 ≤ d) (h2 : d ≤ 64) : mayB ⟨6, 0, 0, ⟨#[]⟩, [⟨1, 1 + d, 0, ⟨#[]⟩, [], []⟩, z26], [⟨#[97]⟩, ⟨#[98]⟩]⟩ = false := bad_item ⟨1, 1 + d, 0, ⟨#[]⟩, [], []⟩ (by simp) (by
  unfold ownB
  have e0 : (1 + d == 0) = false := beq_eq_false_iff_ne.2 (by omega)
  have e1 : (1 + d == 1) = false := beq_eq_false_iff_ne.2 (by omega)
  simp only [e0, e1]
  simp)
theorem vfBad8 (d : Int) (h1 : 1 ≤ d) (h2 : d ≤ 64) : mayB ⟨6, d, 0, ⟨#[]⟩, [numV 1, z26], [⟨#[97]⟩, ⟨#[98]⟩]⟩ = false := bad_own (by
  have e0 : (d == 0) = false := beq_eq_false_iff_ne.2 (by omega)
  unfold ownB plainB
  simp only [e0]
  simp)
theorem vfBad9 : mayB ⟨6, 0, 1, ⟨#[]⟩, [numV 1, z26], [⟨#[97]⟩, ⟨#[98]⟩]⟩ = false := by kernel_rfl
theorem vfBad10 : mayB ⟨6, 0, 0, ⟨#[]⟩, [numV 1, ⟨0, 0, 0, ⟨#[120]⟩, [], []⟩], [⟨#[97]⟩, ⟨#[98]⟩]⟩ = false := by kernel_rfl
theorem vfBad11 (n : Nat) (h : 65536 < n) : mayB ⟨6, 0, 0, ⟨#[]⟩, [numV 1, textV (zs n)], [⟨#[97]⟩, ⟨#[98]⟩]⟩ = false := bad_item (textV (zs n)) (by simp) (by
  unfold ownB
  have e : decide ((zs n).size ≤ 65536) = false := decide_eq_false (by rw [zs_size]; omega)
  simp [textV, e]
  intro _
  exact e)
theorem vfBad12 (n : Nat) (h : 64 < n) : mayB ⟨6, 0, 0, ⟨#[]⟩, [numV 1, ⟨5, 0, 0, ⟨#[]⟩, List.replicate n z26, []⟩], [⟨#[97]⟩, ⟨#[98]⟩]⟩ = false := bad_item ⟨5, 0, 0, ⟨#[]⟩, List.replicate n z26, []⟩ (by simp) (by
  unfold ownB
  have e : decide ((List.replicate n z26).length ≤ 64) = false := decide_eq_false (by rw [List.length_replicate]; omega)
  simp only [e]
  simp)
theorem vfBad13 : mayB ⟨5, 0, 0, ⟨#[]⟩, [numV 1, z26], [⟨#[97]⟩, ⟨#[98]⟩]⟩ = false := by kernel_rfl
theorem vfBad14 : mayB ⟨6, 0, 0, ⟨#[]⟩, [numV 1, ⟨0, 0, 0, ⟨#[]⟩, [], [⟨#[107]⟩]⟩], [⟨#[97]⟩, ⟨#[98]⟩]⟩ = false := by kernel_rfl

/-! ### what is answered of a value that may not be -/
theorem numVB (i : Int) (W : World) : Calls Tryd.prog 25 #[.int .i64 i] W fun e w' => e = .returned (.int .i64 i) ∧ Below W.heap.size W w' := (stolelaw0_Num.calls i i W rfl).mono fun e w' ⟨h, m, hm⟩ => ⟨h, by rw [hm]; exact pw_below_drewN (Below.refl _ _) m⟩
theorem bad_may (x : V) (A4 : Option Addr) (c4 : Nat) (A5 : Option Addr) (c5 : Nat) (W : World) (h : Rows4 W x A4 c4 A5 c5) (hm : mayB x = false) : Calls Tryd.prog 28 #[.agg #[.int .i64 x.f0, .int .i64 x.f1, .int .u64 x.f2, .string x.f3, .slice A4 x.f4.length c4, .slice A5 x.f5.length c5]] W fun e w' => e = .returned (.bool false) ∧ Below W.heap.size W w' := by
  have t := May_calls x A4 c4 A5 c5 W h
  rw [hm] at t
  exact t
theorem bad_true (x : V) (A4 : Option Addr) (c4 : Nat) (A5 : Option Addr) (c5 : Nat) (W : World) (h : Rows4 W x A4 c4 A5 c5) (hm : mayB x = false) (h2 : 0 ≤ x.f2) (h2' : x.f2 < 2 ^ 64) : Calls Tryd.prog 30 #[.agg #[.int .i64 x.f0, .int .i64 x.f1, .int .u64 x.f2, .string x.f3, .slice A4 x.f4.length c4, .slice A5 x.f5.length c5]] W fun e w' => e = .returned (.bool false) ∧ Below W.heap.size W w' := by
  have t := True_calls x A4 c4 A5 c5 W h h2 h2'
  rw [hm, Bool.false_and] at t
  exact t
theorem bad_same (x : V) (A4 : Option Addr) (c4 : Nat) (A5 : Option Addr) (c5 : Nat) (W : World) (h : Rows4 W x A4 c4 A5 c5) (hm : mayB x = false) (hg : rngD 8 x) : Calls Tryd.prog 32 #[.agg #[.int .i64 x.f0, .int .i64 x.f1, .int .u64 x.f2, .string x.f3, .slice A4 x.f4.length c4, .slice A5 x.f5.length c5], .agg #[.int .i64 x.f0, .int .i64 x.f1, .int .u64 x.f2, .string x.f3, .slice A4 x.f4.length c4, .slice A5 x.f5.length c5]] W fun e w' => e = .returned (.bool false) ∧ Below W.heap.size W w' := by
  have t := Same_calls x x A4 c4 A5 c5 A4 c4 A5 c5 W h h hg hg
  rw [hm, Bool.false_and, Bool.false_and] at t
  exact t
theorem bad_less (x : V) (A4 : Option Addr) (c4 : Nat) (A5 : Option Addr) (c5 : Nat) (W : World) (h : Rows4 W x A4 c4 A5 c5) (hm : mayB x = false) : Calls Tryd.prog 21 #[.agg #[.int .i64 x.f0, .int .i64 x.f1, .int .u64 x.f2, .string x.f3, .slice A4 x.f4.length c4, .slice A5 x.f5.length c5], .agg #[.int .i64 x.f0, .int .i64 x.f1, .int .u64 x.f2, .string x.f3, .slice A4 x.f4.length c4, .slice A5 x.f5.length c5]] W fun e w' => e = .returned (.tuple #[.bool false, .int .i64 400]) ∧ Below W.heap.size W w' := by
  have t := Less_calls x x A4 c4 A5 c5 A4 c4 A5 c5 W h h
  rw [show lessB x x = false by unfold lessB; rw [hm]; rfl, show lessE x x = 400 by unfold lessE; rw [hm]; rfl] at t
  exact t
theorem bad_text (x : V) (A4 : Option Addr) (c4 : Nat) (A5 : Option Addr) (c5 : Nat) (W : World) (hT : Tabs W) (h : Rows4 W x A4 c4 A5 c5) (hm : mayB x = false) (h2 : 0 ≤ x.f2) (h2' : x.f2 < 2 ^ 64) : Calls Tryd.prog 19 #[.agg #[.int .i64 x.f0, .int .i64 x.f1, .int .u64 x.f2, .string x.f3, .slice A4 x.f4.length c4, .slice A5 x.f5.length c5]] W fun e w' => e = .returned (.tuple #[.string ⟨#[]⟩, .int .i64 400]) ∧ Below W.heap.size W w' := by
  have t := Text_calls x A4 c4 A5 c5 W hT h h2 h2'
  rw [if_neg (by rw [hm]; decide), if_neg (by rw [hm]; decide)] at t
  exact t
theorem bad_get (x : V) (A4 : Option Addr) (c4 : Nat) (A5 : Option Addr) (c5 : Nat) (W : World) (h : Rows4 W x A4 c4 A5 c5) (hm : mayB x = false) : Calls Tryd.prog 23 #[.agg #[.int .i64 x.f0, .int .i64 x.f1, .int .u64 x.f2, .string x.f3, .slice A4 x.f4.length c4, .slice A5 x.f5.length c5], .slice none 0 0] W fun e w' => (∃ A c B d, e = .returned (.tuple #[.agg #[.int .i64 0, .int .i64 0, .int .u64 0, .string ⟨#[]⟩, .slice A 0 c, .slice B 0 d], .int .i64 400])) ∧ Below W.heap.size W w' := by
  have t := Get_calls x A4 c4 A5 c5 none 0 [] W h (Kd.C_nil _ _)
  rw [show getR x [] = (z26, 400) by unfold getR; rw [if_neg (by rw [hm]; simp)]] at t
  refine t.mono fun e w' h => ?_
  obtain ⟨v4, v5, rfl, hk4, hk5, hb⟩ := h
  obtain ⟨A, c, rfl⟩ := Kd.R_slice hk4
  obtain ⟨B, d, rfl⟩ := Kd.R_slice hk5
  exact ⟨⟨A, c, B, d, rfl⟩, hb⟩

set_option maxHeartbeats 64000000 in
theorem valueForms_calls (n m : Int) (w : World) (hT : Tabs w) : Calls Tryd.prog 6 #[.int .i64 n, .int .i64 m] w fun e w' => e = .returned (.bool true) ∧ Below w.heap.size w w' := by
  have hu26 := Tryd.underlying26
  have HT := Lib.hid hT
  have AW := Lib.hid (fun W (h : Below w.heap.size w W) => awake_calls W (hT.below h))
  clear hT
  have CN := Lib.hid num_calls
  go_enter Tryd.func6, Tryd.ntmps6
  go_upto_region 4 with (first | (go_at_call 35; (with_reducible refine (AW.out _ (Below.refl _ _)).mono ?_); rintro e w1 ⟨rfl, hbn⟩; have HB := Lib.hid hbn; clear hbn))
  obtain ⟨d, hd, hd1, hd2⟩ := and63 m
  rw [hd]
  clear hd
  go_upto_region 5 with (first | (go_at_call 38; refine (CN.out _ _).mono ?_; rintro e w2 ⟨rfl, hb2⟩; have K2 := Lib.hid (blk_below (blk_new _ _) hb2); have B2 := Lib.hid (below_step (below_alloc HB.out _) hb2); clear hb2))
  have VF := Lib.hid (show Vf w ((w2.alloc (.cells #[.int .i64 2, .int .i64 1, .int .u64 0, .string ⟨#[]⟩, .slice none 0 0, .slice none 0 0, .int .i64 0, .int .i64 0, .int .u64 0, .string ⟨#[]⟩, .slice none 0 0, .slice none 0 0] 26)).alloc (.cells #[.int .i64 6, .int .i64 0, .int .u64 0, .string ⟨#[]⟩, .slice (some ⟨w2.heap.size, 0, none⟩) 2 2, .slice (some ⟨w1.heap.size, 0, none⟩) 2 2] 26)) w1.heap.size w2.heap.size (w2.heap.size + 1) from
    ⟨blk_alloc (blk_alloc K2.out _) _, blk_alloc (blk_new _ _) _, by have := blk_new (w2.alloc (.cells #[.int .i64 2, .int .i64 1, .int .u64 0, .string ⟨#[]⟩, .slice none 0 0, .slice none 0 0, .int .i64 0, .int .i64 0, .int .u64 0, .string ⟨#[]⟩, .slice none 0 0, .slice none 0 0] 26)) (.cells #[.int .i64 6, .int .i64 0, .int .u64 0, .string ⟨#[]⟩, .slice (some ⟨w2.heap.size, 0, none⟩) 2 2, .slice (some ⟨w1.heap.size, 0, none⟩) 2 2] 26); simpa using this, below_alloc (below_alloc B2.out _) _, below_size HB.out, below_size B2.out, Nat.le_succ_of_le (below_size B2.out), Nat.ne_of_lt (blk_lt K2.out), Nat.ne_of_lt (Nat.lt_succ_of_lt (blk_lt K2.out)), Nat.ne_of_lt (Nat.lt_succ_self _)⟩)
  clear K2 B2 HB
  generalize w1.heap.size = gk at *
  go_upto_region 6 with (first | (go_at_call 28; (with_reducible refine (vf_may VF.out).mono ?_); rintro e wn ⟨rfl, hbn⟩; have VF2 := Lib.hid (VF.out.below hbn); clear hbn VF; have VF := VF2; clear VF2))
  generalize w2.heap.size + 1 = gv at *
  generalize w2.heap.size = gi at *
  have HT2 := HT
  go_upto_block 0 with (fail)
  obtain ⟨r, hr, hr0, hr1⟩ := mod15 n
  rw [hr]
  clear hr
  go_cut [] (fun wc => Bad w wc gv)
  case first =>
    go_upto_region 8 with (fail)
    have hcase : r = 0 ∨ r = 1 ∨ r = 2 ∨ r = 3 ∨ r = 4 ∨ r = 5 ∨ r = 6 ∨ r = 7 ∨ r = 8 ∨ r = 9 ∨ r = 10 ∨ r = 11 ∨ r = 12 ∨ r = 13 ∨ r = 14 := by omega
    clear hr0 hr1
    have hK := VF.out.K
    have hI := VF.out.I
    have hV := VF.out.V
    have kc0 := (blk_cell hK 0).trans rfl; have kf0 := blk_frozen hK 0
    have kc1 := (blk_cell hK 1).trans rfl; have kf1 := blk_frozen hK 1
    have ic0 := (blk_cell hI 0).trans rfl; have if0 := blk_frozen hI 0
    have ic1 := (blk_cell hI 1).trans rfl; have if1 := blk_frozen hI 1
    have ic2 := (blk_cell hI 2).trans rfl; have if2 := blk_frozen hI 2
    have ic3 := (blk_cell hI 3).trans rfl; have if3 := blk_frozen hI 3
    have ic4 := (blk_cell hI 4).trans rfl; have if4 := blk_frozen hI 4
    have ic5 := (blk_cell hI 5).trans rfl; have if5 := blk_frozen hI 5
    have ic6 := (blk_cell hI 6).trans rfl; have if6 := blk_frozen hI 6
    have ic7 := (blk_cell hI 7).trans rfl; have if7 := blk_frozen hI 7
    have ic8 := (blk_cell hI 8).trans rfl; have if8 := blk_frozen hI 8
    have ic9 := (blk_cell hI 9).trans rfl; have if9 := blk_frozen hI 9
    have ic10 := (blk_cell hI 10).trans rfl; have if10 := blk_frozen hI 10
    have ic11 := (blk_cell hI 11).trans rfl; have if11 := blk_frozen hI 11
    have vc0 := (blk_cell hV 0).trans rfl; have vf0 := blk_frozen hV 0
    have vc1 := (blk_cell hV 1).trans rfl; have vf1 := blk_frozen hV 1
    have vc2 := (blk_cell hV 2).trans rfl; have vf2 := blk_frozen hV 2
    have vc3 := (blk_cell hV 3).trans rfl; have vf3 := blk_frozen hV 3
    have vc4 := (blk_cell hV 4).trans rfl; have vf4 := blk_frozen hV 4
    have vc5 := (blk_cell hV 5).trans rfl; have vf5 := blk_frozen hV 5
    rcases hcase with rfl | rfl | rfl | rfl | rfl | rfl | rfl | rfl | rfl | rfl | rfl | rfl | rfl | rfl | rfl
    · go_wp2
      all_goals go_meet
      case rel =>
        exact bad_of (x0 := numV 1) (x1 := z26) [⟨#[97]⟩, ⟨#[98]⟩] (6 + d) 0 0 (blk_far hK VF.out.kv _) (blk_far hI VF.out.iv _) (blk_put hV 0 _ rfl) (below_set VF.out.B VF.out.lv) (leafV _ _ rfl rfl) (leafV _ _ rfl rfl) (ks2) (by decide) (vfBad0 d hd1 hd2) (vfRng _ _ _ _ _ _ _ (by decide) (by decide) (Int.le_refl _) z64 (Int.le_refl _) z64 rfl rfl)
    · go_wp2
      all_goals go_meet
      case rel =>
        exact bad_of (x0 := numV 1) (x1 := z26) [⟨#[97]⟩, ⟨#[98]⟩] (-d) 0 0 (blk_far hK VF.out.kv _) (blk_far hI VF.out.iv _) (blk_put hV 0 _ rfl) (below_set VF.out.B VF.out.lv) (leafV _ _ rfl rfl) (leafV _ _ rfl rfl) (ks2) (by decide) (vfBad1 d hd1 hd2) (vfRng _ _ _ _ _ _ _ (by decide) (by decide) (Int.le_refl _) z64 (Int.le_refl _) z64 rfl rfl)
    · go_wp2
      all_goals go_meet
      case rel =>
        exact bad_of (x0 := numV 1) (x1 := z26) [⟨#[97]⟩] 6 0 0 (blk_far hK VF.out.kv _) (blk_far hI VF.out.iv _) (blk_put hV 5 _ rfl) (below_set VF.out.B VF.out.lv) (leafV _ _ rfl rfl) (leafV _ _ rfl rfl) (ks1) (by decide) (vfBad2) (vfRng _ _ _ _ _ _ _ (by decide) (by decide) (Int.le_refl _) z64 (Int.le_refl _) z64 rfl rfl)
    · go_wp2
      all_goals go_meet
      case rel =>
        exact bad_of (x0 := numV 1) (x1 := z26) [⟨#[97]⟩, ⟨#[97]⟩] 6 0 0 (blk_put hK 1 _ rfl) (blk_far hI (Ne.symm VF.out.ki) _) (blk_far hV (Ne.symm VF.out.kv) _) (below_set VF.out.B VF.out.lk) (leafV _ _ rfl rfl) (leafV _ _ rfl rfl) (ks2) (by decide) (vfBad3) (vfRng _ _ _ _ _ _ _ (by decide) (by decide) (Int.le_refl _) z64 (Int.le_refl _) z64 rfl rfl)
    · go_wp2
      all_goals go_meet
      case rel =>
        exact bad_of (x0 := numV 1) (x1 := z26) [⟨#[]⟩, ⟨#[98]⟩] 6 0 0 (blk_put hK 0 _ rfl) (blk_far hI (Ne.symm VF.out.ki) _) (blk_far hV (Ne.symm VF.out.kv) _) (below_set VF.out.B VF.out.lk) (leafV _ _ rfl rfl) (leafV _ _ rfl rfl) (ks2) (by decide) (vfBad4) (vfRng _ _ _ _ _ _ _ (by decide) (by decide) (Int.le_refl _) z64 (Int.le_refl _) z64 rfl rfl)
    · go_upto_region 19 with (fail)
      have wd : wrap64 (32 + d) = (32 + d) := wrap_small _ (by omega) (by omega)
      have mk := made_bytes (32 + d) (by omega) (by omega)
      have hVa := blk_alloc hV (.cells (madeCells #[.int .u8 0] (32 + d).toNat) 5); have hSa := blk_alloc hK (.cells (madeCells #[.int .u8 0] (32 + d).toNat) 5)
      have hva := (blk_cell hVa 5).trans rfl
      have kc1a := (blk_cell hSa 1).trans rfl; have kf1a := blk_frozen hSa 1
      have cv1 := conv_bytes (wn.alloc (.cells (madeCells #[.int .u8 0] (32 + d).toNat) 5)) wn.heap.size (32 + d).toNat (32 + d).toNat (blk_new _ _)
      have cv2 := conv_bytes (wn.alloc (.cells (madeCells #[.int .u8 0] (32 + d).toNat) 5)).drew wn.heap.size (32 + d).toNat (32 + d).toNat (blk_drew (blk_new _ _))
      go_region
      all_goals (try go_wp2)
      all_goals go_meet
      case rel =>
        exact bad_of (x0 := numV 1) (x1 := z26) [⟨#[97]⟩, zs (32 + d).toNat] 6 0 0 (blk_drew (blk_put (blk_alloc hK _) 1 _ rfl)) (blk_drew (blk_far (blk_alloc hI _) (Ne.symm VF.out.ki) _)) (blk_drew (blk_far (blk_alloc hV _) (Ne.symm VF.out.kv) _)) (below_step (below_set (below_alloc VF.out.B _) VF.out.lk) (below_drew (Below.refl _ _))) (leafV _ _ rfl rfl) (leafV _ _ rfl rfl) ks2 (by show 2 ≤ 2; decide) (vfBad5 _ (by omega)) (vfRng _ _ _ _ _ _ _ (by decide) (by decide) (Int.le_refl _) z64 (Int.le_refl _) z64 rfl rfl)
    · go_upto_region 21 with (fail)
      have wd : wrap64 (9007199254740991 + d) = 9007199254740991 + d := wrap_small _ (by omega) (by omega)
      have wd2 : IntKind.i64.wrap (9007199254740991 + d) = 9007199254740991 + d := by rw [i64_w]; exact wd
      go_region_with (go_at_call 38; (with_reducible refine (CN.out _ _).mono ?_); rintro e wx ⟨rfl, hb⟩; have hVb := blk_below (show _ = _ from hV : wn.drew.heap[gv]? = _) hb; have hIb := blk_below (show _ = _ from hI : wn.drew.heap[gi]? = _) hb; have hKb := blk_below (show _ = _ from hK : wn.drew.heap[gk]? = _) hb; have hBb := Lib.hid hb; clear hb; have vc4b := (blk_cell hVb 4).trans rfl; have vf4b := blk_frozen hVb 4; have ic0b := (blk_cell hIb 0).trans rfl; have if0b := blk_frozen hIb 0; have ic1b := (blk_cell hIb 1).trans rfl; have if1b := blk_frozen hIb 1; have ic2b := (blk_cell hIb 2).trans rfl; have if2b := blk_frozen hIb 2; have ic3b := (blk_cell hIb 3).trans rfl; have if3b := blk_frozen hIb 3; have ic4b := (blk_cell hIb 4).trans rfl; have if4b := blk_frozen hIb 4; have ic5b := (blk_cell hIb 5).trans rfl; have if5b := blk_frozen hIb 5)
      all_goals (try go_wp2)
      all_goals go_meet
      all_goals
        exact bad_of (x0 := numV (9007199254740991 + d)) (x1 := z26) [⟨#[97]⟩, ⟨#[98]⟩] 6 0 0 (blk_far (blk_far (blk_far (blk_far (blk_far (blk_far hKb VF.out.ki _) VF.out.ki _) VF.out.ki _) VF.out.ki _) VF.out.ki _) VF.out.ki _) (blk_put (blk_put (blk_put (blk_put (blk_put (blk_put hIb 0 _ rfl) 1 _ rfl) 2 _ rfl) 3 _ rfl) 4 _ rfl) 5 _ rfl) (blk_far (blk_far (blk_far (blk_far (blk_far (blk_far hVb (Ne.symm VF.out.iv) _) (Ne.symm VF.out.iv) _) (Ne.symm VF.out.iv) _) (Ne.symm VF.out.iv) _) (Ne.symm VF.out.iv) _) (Ne.symm VF.out.iv) _) (below_set (below_set (below_set (below_set (below_set (below_set (below_step (below_step VF.out.B (below_drew (Below.refl _ _))) hBb.out) VF.out.li) VF.out.li) VF.out.li) VF.out.li) VF.out.li) VF.out.li) (leafV _ _ rfl rfl) (leafV _ _ rfl rfl) ks2 (by decide) (vfBad6 d hd1 hd2) (vfRng _ _ _ _ _ _ _ (by decide) (by decide) (Int.le_refl _) z64 (Int.le_refl _) z64 rfl rfl)
    · go_wp2
      all_goals go_meet
      case rel =>
        exact bad_of (x0 := ⟨1, 1 + d, 0, ⟨#[]⟩, [], []⟩) (x1 := z26) [⟨#[97]⟩, ⟨#[98]⟩] 6 0 0 (blk_far (blk_far (blk_far (blk_far (blk_far (blk_far hK VF.out.ki _) VF.out.ki _) VF.out.ki _) VF.out.ki _) VF.out.ki _) VF.out.ki _) (blk_put (blk_put (blk_put (blk_put (blk_put (blk_put hI 0 _ rfl) 1 _ rfl) 2 _ rfl) 3 _ rfl) 4 _ rfl) 5 _ rfl) (blk_far (blk_far (blk_far (blk_far (blk_far (blk_far hV (Ne.symm VF.out.iv) _) (Ne.symm VF.out.iv) _) (Ne.symm VF.out.iv) _) (Ne.symm VF.out.iv) _) (Ne.symm VF.out.iv) _) (Ne.symm VF.out.iv) _) (below_set (below_set (below_set (below_set (below_set (below_set VF.out.B VF.out.li) VF.out.li) VF.out.li) VF.out.li) VF.out.li) VF.out.li) (leafV _ _ rfl rfl) (leafV _ _ rfl rfl) (ks2) (by decide) (vfBad7 d hd1 hd2) (vfRng _ _ _ _ _ _ _ (by decide) (by decide) (Int.le_refl _) z64 (Int.le_refl _) z64 rfl rfl)
    · go_wp2
      all_goals go_meet
      case rel =>
        exact bad_of (x0 := numV 1) (x1 := z26) [⟨#[97]⟩, ⟨#[98]⟩] 6 d 0 (blk_far hK VF.out.kv _) (blk_far hI VF.out.iv _) (blk_put hV 1 _ rfl) (below_set VF.out.B VF.out.lv) (leafV _ _ rfl rfl) (leafV _ _ rfl rfl) (ks2) (by decide) (vfBad8 d hd1 hd2) (vfRng _ _ _ _ _ _ _ (by decide) (by decide) (Int.le_refl _) z64 (Int.le_refl _) z64 rfl rfl)
    · go_wp2
      all_goals go_meet
      case rel =>
        exact bad_of (x0 := numV 1) (x1 := z26) [⟨#[97]⟩, ⟨#[98]⟩] 6 0 1 (blk_far hK VF.out.kv _) (blk_far hI VF.out.iv _) (blk_put hV 2 _ rfl) (below_set VF.out.B VF.out.lv) (leafV _ _ rfl rfl) (leafV _ _ rfl rfl) (ks2) (by decide) (vfBad9) (vfRng _ _ _ _ _ _ _ (by decide) (by decide) (Int.le_refl _) z64 (Int.le_refl _) z64 rfl rfl)
    · go_wp2
      all_goals go_meet
      case rel =>
        exact bad_of (x0 := numV 1) (x1 := ⟨0, 0, 0, ⟨#[120]⟩, [], []⟩) [⟨#[97]⟩, ⟨#[98]⟩] 6 0 0 (blk_far hK VF.out.ki _) (blk_put hI 9 _ rfl) (blk_far hV (Ne.symm VF.out.iv) _) (below_set VF.out.B VF.out.li) (leafV _ _ rfl rfl) (leafV _ _ rfl rfl) (ks2) (by decide) (vfBad10) (vfRng _ _ _ _ _ _ _ (by decide) (by decide) (Int.le_refl _) z64 (Int.le_refl _) z64 rfl rfl)
    · go_upto_region 31 with (fail)
      have wd : wrap64 (65536 + d) = (65536 + d) := wrap_small _ (by omega) (by omega)
      have mk := made_bytes (65536 + d) (by omega) (by omega)
      have hVa := blk_alloc hV (.cells (madeCells #[.int .u8 0] (65536 + d).toNat) 5); have hSa := blk_alloc hI (.cells (madeCells #[.int .u8 0] (65536 + d).toNat) 5)
      have hva := (blk_cell hVa 4).trans rfl
      have ic6a := (blk_cell hSa 6).trans rfl; have if6a := blk_frozen hSa 6; have ic7a := (blk_cell hSa 7).trans rfl; have if7a := blk_frozen hSa 7; have ic8a := (blk_cell hSa 8).trans rfl; have if8a := blk_frozen hSa 8; have ic9a := (blk_cell hSa 9).trans rfl; have if9a := blk_frozen hSa 9; have ic10a := (blk_cell hSa 10).trans rfl; have if10a := blk_frozen hSa 10; have ic11a := (blk_cell hSa 11).trans rfl; have if11a := blk_frozen hSa 11
      have cv1 := conv_bytes (wn.alloc (.cells (madeCells #[.int .u8 0] (65536 + d).toNat) 5)) wn.heap.size (65536 + d).toNat (65536 + d).toNat (blk_new _ _)
      have cv2 := conv_bytes (wn.alloc (.cells (madeCells #[.int .u8 0] (65536 + d).toNat) 5)).drew wn.heap.size (65536 + d).toNat (65536 + d).toNat (blk_drew (blk_new _ _))
      go_region
      all_goals (try go_wp2)
      all_goals go_meet
      case rel =>
        exact bad_of (x0 := numV 1) (x1 := textV (zs (65536 + d).toNat)) [⟨#[97]⟩, ⟨#[98]⟩] 6 0 0 (blk_drew (blk_far (blk_far (blk_far (blk_far (blk_far (blk_far (blk_alloc hK _) VF.out.ki _) VF.out.ki _) VF.out.ki _) VF.out.ki _) VF.out.ki _) VF.out.ki _)) (blk_drew (blk_put (blk_put (blk_put (blk_put (blk_put (blk_put (blk_alloc hI _) 6 _ rfl) 7 _ rfl) 8 _ rfl) 9 _ rfl) 10 _ rfl) 11 _ rfl)) (blk_drew (blk_far (blk_far (blk_far (blk_far (blk_far (blk_far (blk_alloc hV _) (Ne.symm VF.out.iv) _) (Ne.symm VF.out.iv) _) (Ne.symm VF.out.iv) _) (Ne.symm VF.out.iv) _) (Ne.symm VF.out.iv) _) (Ne.symm VF.out.iv) _)) (below_step (below_set (below_set (below_set (below_set (below_set (below_set (below_alloc VF.out.B _) VF.out.li) VF.out.li) VF.out.li) VF.out.li) VF.out.li) VF.out.li) (below_drew (Below.refl _ _))) (leafV _ _ rfl rfl) (leafV _ _ rfl rfl) ks2 (by decide) (vfBad11 _ (by omega)) (vfRng _ _ _ _ _ _ _ (by decide) (by decide) (Int.le_refl _) z64 (Int.le_refl _) z64 rfl rfl)
    · go_upto_region 34 with (fail)
      have hV6 := blk_far (p := ⟨gi, 6, none⟩) hV (Ne.symm VF.out.iv) (.int .i64 5)
      have hK6 := blk_far (p := ⟨gi, 6, none⟩) hK VF.out.ki (.int .i64 5)
      have hI6 := blk_put hI 6 (.int .i64 5) rfl
      have hB6 := Lib.hid (below_set (j := 6) (v := .int .i64 5) VF.out.B VF.out.li)
      generalize wn.setCell ⟨gi, 6, none⟩ (.int .i64 5) = W6 at *
      have wd : wrap64 (64 + d) = 64 + d := wrap_small _ (by omega) (by omega)
      have mk := made_vals (64 + d) (by omega) (by omega)
      have hVa := blk_alloc hV6 (.cells (madeCells #[.int .i64 0, .int .i64 0, .int .u64 0, .string ⟨#[]⟩, .slice none 0 0, .slice none 0 0] ((64 + d).toNat * 6)) 26); have hSa := blk_alloc hI6 (.cells (madeCells #[.int .i64 0, .int .i64 0, .int .u64 0, .string ⟨#[]⟩, .slice none 0 0, .slice none 0 0] ((64 + d).toNat * 6)) 26)
      have hv6 := (blk_cell hV6 4).trans rfl
      have hva := (blk_cell hVa 4).trans rfl
      have ic10a := (blk_cell hSa 10).trans rfl; have if10a := blk_frozen hSa 10; have ic10b := (blk_cell hI6 10).trans rfl; have if10b := blk_frozen hI6 10
      go_region
      all_goals (try go_wp2)
      all_goals go_meet
      case rel =>
        exact bad_of (x0 := numV 1) (x1 := ⟨5, 0, 0, ⟨#[]⟩, List.replicate (64 + d).toNat z26, []⟩) [⟨#[97]⟩, ⟨#[98]⟩] 6 0 0 (blk_drew (blk_far (blk_alloc hK6 _) VF.out.ki _)) (blk_drew (blk_put (blk_alloc hI6 _) 10 _ rfl)) (blk_drew (blk_far (blk_alloc hV6 _) (Ne.symm VF.out.iv) _)) (below_step (below_set (below_alloc hB6.out _) VF.out.li) (below_drew (Below.refl _ _))) (leafV _ _ rfl rfl) (rowV _ _ _ (zeros_rows _ _ _ (by omega) (blk_drew (blk_far (blk_new _ _) (Ne.symm (Nat.ne_of_lt (blk_lt hI6))) _)))) ks2 (by decide) (vfBad12 _ (by omega)) (vfRng12 _)
    · go_wp2
      all_goals go_meet
      case rel =>
        exact bad_of (x0 := numV 1) (x1 := z26) [⟨#[97]⟩, ⟨#[98]⟩] 5 0 0 (blk_far hK VF.out.kv _) (blk_far hI VF.out.iv _) (blk_put hV 0 _ rfl) (below_set VF.out.B VF.out.lv) (leafV _ _ rfl rfl) (leafV _ _ rfl rfl) (ks2) (by decide) (vfBad13) (vfRng _ _ _ _ _ _ _ (by decide) (by decide) (Int.le_refl _) z64 (Int.le_refl _) z64 rfl rfl)
    · have hVa := blk_alloc hV (.cells #[.string ⟨#[107]⟩] 9); have hIa := blk_alloc hI (.cells #[.string ⟨#[107]⟩] 9)
      have vc4a := (blk_cell hVa 4).trans rfl; have vf4a := blk_frozen hVa 4; have ic11a := (blk_cell hIa 11).trans rfl; have if11a := blk_frozen hIa 11
      go_wp2
      all_goals go_meet
      case rel =>
        exact bad_of (x0 := numV 1) (x1 := ⟨0, 0, 0, ⟨#[]⟩, [], [⟨#[107]⟩]⟩) [⟨#[97]⟩, ⟨#[98]⟩] 6 0 0 (blk_far (blk_alloc hK _) VF.out.ki _) (blk_put (blk_alloc hI _) 11 _ rfl) (blk_far (blk_alloc hV _) (Ne.symm VF.out.iv) _) (below_set (below_alloc VF.out.B _) VF.out.li) (leafV _ _ rfl rfl) (keyV _ _ (blk_far (blk_new _ _) (Ne.symm (Nat.ne_of_lt (blk_lt hI))) _)) ks2 (by decide) vfBad14 (vfRng _ _ _ _ _ _ _ (by decide) (by decide) (Int.le_refl _) z64 (Int.le_refl _) z64 rfl rfl)
  case rest =>
  obtain ⟨x, A4, c4, A5, c5, XV0, HR0, HM0, HB0⟩ := hcut
  have XV := Lib.hid XV0.out; have HR := Lib.hid HR0.out; have HB := Lib.hid HB0.out
  obtain ⟨hm, hg⟩ := HM0.out
  clear XV0 HR0 HM0 HB0 VF
  have TX := Lib.hid (fun W (h : Below w.heap.size w W) (hr : Rows4 W x A4 c4 A5 c5) => bad_text x A4 c4 A5 c5 W (HT2.out.below h) hr hm hg.1 hg.2.1)
  have LS := Lib.hid (fun W (hr : Rows4 W x A4 c4 A5 c5) => bad_less x A4 c4 A5 c5 W hr hm)
  have GT := Lib.hid (fun W (hr : Rows4 W x A4 c4 A5 c5) => bad_get x A4 c4 A5 c5 W hr hm)
  have MY := Lib.hid (fun W (hr : Rows4 W x A4 c4 A5 c5) => bad_may x A4 c4 A5 c5 W hr hm)
  have TR := Lib.hid (fun W (hr : Rows4 W x A4 c4 A5 c5) => bad_true x A4 c4 A5 c5 W hr hm hg.1 hg.2.1)
  have SM := Lib.hid (fun W (hr : Rows4 W x A4 c4 A5 c5) => bad_same x A4 c4 A5 c5 W hr hm hg)
  clear hm hg
  obtain ⟨v0, v1, v2, v3, v4, v5⟩ := At.of_box XV.out
  go_upto_region 40 with (first | (go_at_call 19; (with_reducible refine (TX.out _ HB.out HR.out).mono ?_); rintro e wn ⟨rfl, hbn⟩; have HB' := Lib.hid (below_step HB.out hbn); have XV' := Lib.hid (blk_below XV.out hbn); have HR' := Lib.hid (Rows4.below HR.out hbn); clear HB XV HR; have HB := HB'; have XV := XV'; have HR := HR'; clear HB' XV' HR' hbn; clear v0 v1 v2 v3 v4 v5; obtain ⟨v0, v1, v2, v3, v4, v5⟩ := At.of_box XV.out) | (go_at_call 21; (with_reducible refine (LS.out _ HR.out).mono ?_); rintro e wn ⟨rfl, hbn⟩; have HB' := Lib.hid (below_step HB.out hbn); have XV' := Lib.hid (blk_below XV.out hbn); have HR' := Lib.hid (Rows4.below HR.out hbn); clear HB XV HR; have HB := HB'; have XV := XV'; have HR := HR'; clear HB' XV' HR' hbn; clear v0 v1 v2 v3 v4 v5; obtain ⟨v0, v1, v2, v3, v4, v5⟩ := At.of_box XV.out) | (go_at_call 23; (with_reducible refine (GT.out _ HR.out).mono ?_); rintro e wn ⟨⟨gA, gc, gB, gd, rfl⟩, hbn⟩; have HB' := Lib.hid (below_step HB.out hbn); have XV' := Lib.hid (blk_below XV.out hbn); have HR' := Lib.hid (Rows4.below HR.out hbn); clear HB XV HR; have HB := HB'; have XV := XV'; have HR := HR'; clear HB' XV' HR' hbn; clear v0 v1 v2 v3 v4 v5; obtain ⟨v0, v1, v2, v3, v4, v5⟩ := At.of_box XV.out))
  have hbn := below_alloc (Below.refl wn.heap.size wn) (.cells #[.int .i64 0, .int .i64 0, .int .u64 0, .string ⟨#[]⟩, .slice gA 0 gc, .slice gB 0 gd] 26)
  have HB' := Lib.hid (below_step HB.out hbn); have XV' := Lib.hid (blk_below XV.out hbn); have HR' := Lib.hid (Rows4.below HR.out hbn); clear HB XV HR; have HB := HB'; have XV := XV'; have HR := HR'; clear HB' XV' HR' hbn; clear v0 v1 v2 v3 v4 v5; obtain ⟨v0, v1, v2, v3, v4, v5⟩ := At.of_box XV.out
  generalize wn.alloc (.cells #[.int .i64 0, .int .i64 0, .int .u64 0, .string ⟨#[]⟩, .slice gA 0 gc, .slice gB 0 gd] 26) = w5 at *
  go_wp2_with (first | (go_at_call 28; (with_reducible refine (MY.out _ HR.out).mono ?_); rintro e wn ⟨rfl, hbn⟩; have HB' := Lib.hid (below_step HB.out hbn); have XV' := Lib.hid (blk_below XV.out hbn); have HR' := Lib.hid (Rows4.below HR.out hbn); clear HB XV HR; have HB := HB'; have XV := XV'; have HR := HR'; clear HB' XV' HR' hbn; clear v0 v1 v2 v3 v4 v5; obtain ⟨v0, v1, v2, v3, v4, v5⟩ := At.of_box XV.out) | (go_at_call 30; (with_reducible refine (TR.out _ HR.out).mono ?_); rintro e wn ⟨rfl, hbn⟩; have HB' := Lib.hid (below_step HB.out hbn); have XV' := Lib.hid (blk_below XV.out hbn); have HR' := Lib.hid (Rows4.below HR.out hbn); clear HB XV HR; have HB := HB'; have XV := XV'; have HR := HR'; clear HB' XV' HR' hbn; clear v0 v1 v2 v3 v4 v5; obtain ⟨v0, v1, v2, v3, v4, v5⟩ := At.of_box XV.out) | (go_at_call 32; (with_reducible refine (SM.out _ HR.out).mono ?_); rintro e wn ⟨rfl, hbn⟩; have HB' := Lib.hid (below_step HB.out hbn); have XV' := Lib.hid (blk_below XV.out hbn); have HR' := Lib.hid (Rows4.below HR.out hbn); clear HB XV HR; have HB := HB'; have XV := XV'; have HR := HR'; clear HB' XV' HR' hbn; clear v0 v1 v2 v3 v4 v5; obtain ⟨v0, v1, v2, v3, v4, v5⟩ := At.of_box XV.out) | (go_at_call 25; (with_reducible refine (numVB _ _).mono ?_); rintro e wn ⟨rfl, hbn⟩; have HB' := Lib.hid (below_step HB.out hbn); have XV' := Lib.hid (blk_below XV.out hbn); have HR' := Lib.hid (Rows4.below HR.out hbn); clear HB XV HR; have HB := HB'; have XV := XV'; have HR := HR'; clear HB' XV' HR' hbn; clear v0 v1 v2 v3 v4 v5; obtain ⟨v0, v1, v2, v3, v4, v5⟩ := At.of_box XV.out))
  all_goals (try go_ret)
  all_goals exact ⟨rfl, HB.out⟩
end Go.Proofs.YtepolmajebdphaaDoor.Values
