/- stolelaw4.ValueDeep, walked: it answers true, whatever the two numbers. -/
import Derived.Test.YtepolmajebdphaaDoorValKit
import Derived.Deep.AppendLies
import Derived.Deep.RegionLaw
namespace Go.Proofs.YtepolmajebdphaaDoor.Values
open Go.RowKit Go.Proofs.YtepolmajebdphaaDoor.Q Go.Proofs.YtepolmajebdphaaDoor.Real Go.Proofs.YtepolmajebdphaaDoor.RealPure Go.Proofs.YtepolmajebdphaaDoorW.PrintWords Go.Proofs.YtepolmajebdphaaDoorW.PrintLast Go.Proofs.YtepolmajebdphaaDoorW.PrintMore
set_option linter.unusedSimpArgs false
set_option linter.unusedVariables false
set_option maxRecDepth 100000

/-! ### the trees -/
def nestV : Nat → V
  | 0 => numV 1
  | k + 1 => ⟨5, 0, 0, ⟨#[]⟩, [nestV k], []⟩
def numsV (n : Nat) : List V := (List.range n).map fun (i : Nat) => numV (i : Int)
def rowT (n : Nat) : V := ⟨5, 0, 0, ⟨#[]⟩, numsV n, []⟩
def manyT (m : Nat) : V := ⟨5, 0, 0, ⟨#[]⟩, List.replicate m (rowT 60), []⟩
theorem nest_may : ((List.range 12).all fun k => mayB (nestV k) == decide (((k : Int) + 1) ≤ 8)) = true := by kernel_rfl
theorem many_may : ((List.range 21).all fun m => mayB (manyT m) == decide (1 + 61 * (m : Int) ≤ 1024)) = true := by kernel_rfl
theorem nest_of (k : Nat) (h : k < 12) : mayB (nestV k) = decide ((k : Int) + 1 ≤ 8) := eq_of_beq (List.all_eq_true.1 nest_may k (List.mem_range.2 h))
theorem many_of (m : Nat) (h : m < 21) : mayB (manyT m) = decide (1 + 61 * (m : Int) ≤ 1024) := eq_of_beq (List.all_eq_true.1 many_may m (List.mem_range.2 h))
def numCells (n : Nat) : List Value := (List.range n).flatMap fun (i : Nat) => [.int .i64 2, .int .i64 (i : Int), .int .u64 0, .string ⟨#[]⟩, .slice none 0 0, .slice none 0 0]
theorem numCells_succ (n : Nat) : numCells (n + 1) = numCells n ++ [.int .i64 2, .int .i64 (n : Int), .int .u64 0, .string ⟨#[]⟩, .slice none 0 0, .slice none 0 0] := by
  unfold numCells
  rw [List.range_succ, List.flatMap_append]
  simp
theorem reps_snoc {α : Type} {P : α → List Value → Prop} {sz : Nat} {xs : List α} {cs : List Value} {x : α} {c : List Value} (h : Reps P sz xs cs) (hp : P x c) (hl : c.length = sz) : Reps P sz (xs ++ [x]) (cs ++ c) := by
  obtain ⟨h1, h2⟩ := h
  refine ⟨by rw [List.length_append, List.length_append, h1, hl, Nat.add_mul]; simp, fun j p hj => ?_⟩
  have hlen : cs.length = xs.length * sz := h1
  by_cases c1 : j < xs.length
  · rw [List.getElem?_append_left c1] at hj
    have h3 := h2 j p hj
    have hm : j * sz + sz ≤ cs.length := by rw [hlen, ← Nat.succ_mul]; exact Nat.mul_le_mul_right _ c1
    rw [List.drop_append_of_le_length (by omega), List.take_append_of_le_length (by rw [List.length_drop]; omega)]
    exact h3
  · have hj2 : j = xs.length := by
      have := (List.getElem?_eq_some_iff.1 hj).1
      rw [List.length_append, List.length_singleton] at this
      omega
    subst hj2
    rw [List.getElem?_append_right (Nat.le_refl _), Nat.sub_self] at hj
    obtain rfl : x = p := Option.some.inj hj
    rw [← hlen, List.drop_left, List.take_of_length_le (by omega)]
    exact hp
theorem reps_nums (W : World) : ∀ n, Reps (k26.K W) 6 (numsV n) (numCells n)
  | 0 => ⟨rfl, fun j p hj => by simp [numsV] at hj⟩
  | n + 1 => by
    have e : numsV (n + 1) = numsV n ++ [numV (n : Int)] := by unfold numsV; rw [List.range_succ, List.map_append]; rfl
    rw [e, numCells_succ]
    exact reps_snoc (reps_nums W n) (leafV W (numV (n : Int)) rfl rfl) rfl
def manyCells (r : List Value) (n : Nat) : List Value := (List.range n).flatMap fun _ => r
theorem manyCells_succ (r : List Value) (n : Nat) : manyCells r (n + 1) = manyCells r n ++ r := by
  unfold manyCells
  rw [List.range_succ, List.flatMap_append]
  simp
theorem reps_many (W : World) (x : V) (r : List Value) (h : k26.K W x r) : ∀ n, Reps (k26.K W) 6 (List.replicate n x) (manyCells r n)
  | 0 => ⟨rfl, fun j p hj => by simp at hj⟩
  | n + 1 => by
    rw [List.replicate_succ', manyCells_succ]
    exact reps_snoc (reps_many W x r h n) h (k26.K_len h)
/-- A row of one's own, read. -/
theorem own_reads {W : World} {base n : Nat} {v : Value} {cs : List Value} {xs : List V} (h : W.ownsRow base 26 6 v n cs) (hr : Reps (k26.K W) 6 xs cs) (hn : xs.length = n) : ∃ A c, v = .slice A n c ∧ n ≤ c ∧ Kd.C k26 W A n xs := by
  obtain ⟨hl, h2⟩ := h
  rcases h2 with ⟨rfl, h0⟩ | ⟨g, cap, cur, rfl, hg, hh, hc, hm, hsz, ht⟩
  · subst h0
    obtain rfl : xs = [] := List.eq_nil_of_length_eq_zero hn
    exact ⟨none, 0, rfl, Nat.le_refl _, Kd.C_nil _ _⟩
  · refine ⟨some ⟨g, 0, none⟩, cap, rfl, hc, hn, Nat.le_trans hc hm, fun _ => ⟨⟨g, 0, none⟩, rfl, fun j p hj => ⟨(cs.drop (j * 6)).take 6, ?_, hr.2 j p hj, fun i u hu => ?_⟩⟩⟩
    · have hjl := (List.getElem?_eq_some_iff.1 hj).1
      have h1 : j * 6 + 6 ≤ cs.length := by rw [hr.1, ← Nat.succ_mul]; exact Nat.mul_le_mul_right _ hjl
      show ((cs.drop (j * 6)).take 6).length = 6
      rw [List.length_take, List.length_drop]
      omega
    · rw [List.getElem?_take] at hu
      split at hu
      · rw [List.getElem?_drop] at hu
        show W.cell? ((⟨g, 0, none⟩ : Addr).add (j * 6 + i)) = some u
        rw [Addr.add_lit, blk_cell hh _]
        rw [← ht, List.getElem?_take] at hu
        split at hu
        · simpa using hu
        · cases hu
      · cases hu
/-- What holds in each world that agrees on the blocks behind b. -/
def Fr (b : Nat) (W : World) (P : World → Prop) : Prop := ∀ W1, (∀ k, b < k → k < W.heap.size → W1.heap[k]? = W.heap[k]?) → P W1
theorem Fr.self {b : Nat} {W : World} {P : World → Prop} (h : Fr b W P) : P W := h W fun _ _ _ => rfl
theorem six_putV {W : World} {g : Nat} {t : TypeId} {o0 o1 o2 o3 o4 o5 : Value} (h : W.heap[g]? = some (.cells #[o0, o1, o2, o3, o4, o5] t (0, 0))) (v0 v1 v2 v3 v4 v5 : Value) :
    ((((((W.setCell ⟨g, 0, none⟩ v0).setCell ⟨g, 1, none⟩ v1).setCell ⟨g, 2, none⟩ v2).setCell ⟨g, 3, none⟩ v3).setCell ⟨g, 4, none⟩ v4).setCell ⟨g, 5, none⟩ v5).heap[g]? = some (.cells #[v0, v1, v2, v3, v4, v5] t (0, 0)) :=
  blk_put (blk_put (blk_put (blk_put (blk_put (blk_put h 0 v0 rfl) 1 v1 rfl) 2 v2 rfl) 3 v3 rfl) 4 v4 rfl) 5 v5 rfl
theorem six_farV {W : World} {g k : Nat} (h : k ≠ g) (v0 v1 v2 v3 v4 v5 : Value) :
    ((((((W.setCell ⟨g, 0, none⟩ v0).setCell ⟨g, 1, none⟩ v1).setCell ⟨g, 2, none⟩ v2).setCell ⟨g, 3, none⟩ v3).setCell ⟨g, 4, none⟩ v4).setCell ⟨g, 5, none⟩ v5).heap[k]? = W.heap[k]? := by
  repeat rw [Below.heap_setCell _ _ _ k h]
theorem six_belowV {w W : World} {g : Nat} (h : Below w.heap.size w W) (hg : w.heap.size ≤ g) (v0 v1 v2 v3 v4 v5 : Value) :
    Below w.heap.size w ((((((W.setCell ⟨g, 0, none⟩ v0).setCell ⟨g, 1, none⟩ v1).setCell ⟨g, 2, none⟩ v2).setCell ⟨g, 3, none⟩ v3).setCell ⟨g, 4, none⟩ v4).setCell ⟨g, 5, none⟩ v5) :=
  below_set (below_set (below_set (below_set (below_set (below_set h hg) hg) hg) hg) hg) hg
/-- One more list around it. -/
theorem nest_step {gv : Nat} {W W2 : World} {x : V} {cs : List Value} (h : Fr gv W (fun W1 => k26.K W1 x cs)) (hg : gv < W.heap.size) (hs : W2.heap.size = W.heap.size + 1)
    (hW : ∀ k, gv < k → k < W.heap.size → W2.heap[k]? = W.heap[k]?) (hn : W2.heap[W.heap.size]? = some (.cells cs.toArray 26 (0, 0))) :
    Fr gv W2 (fun W1 => k26.K W1 ⟨5, 0, 0, ⟨#[]⟩, [x], []⟩ [.int .i64 5, .int .i64 0, .int .u64 0, .string ⟨#[]⟩, .slice (some ⟨W.heap.size, 0, none⟩) 1 1, .slice none 0 0]) := fun W1 h1 => by
  have hk : k26.K W1 x cs := h W1 fun k hk hl => (h1 k hk (by omega)).trans (hW k hk hl)
  have hr : Reps (k26.K W1) 6 [x] cs := ⟨by rw [k26.K_len hk]; rfl, fun j p hj => by
    rcases j with _ | j
    · obtain rfl : x = p := Option.some.inj hj
      rw [Nat.zero_mul, List.drop_zero, List.take_of_length_le (by rw [k26.K_len hk]; exact Nat.le_refl 6)]
      exact hk
    · simp at hj⟩
  exact k26_mk W1 ⟨5, 0, 0, ⟨#[]⟩, [x], []⟩ (A4 := some ⟨W.heap.size, 0, none⟩) (c4 := 1) (Nat.le_refl _) (row_blockV ((h1 _ hg (by omega)).trans hn) hr (by simp)) (A5 := none) (c5 := 0) (Nat.le_refl _) (Kd.C_nil _ _)
/-- What an append onto the items of a list in its box leaves. -/
theorem app_step {wq W W1 W2 : World} {gr i g cap : Nat} {v : Value} {cs nw : List Value} (hXR : W.heap[gr]? = some (.cells #[.int .i64 5, .int .i64 0, .int .u64 0, .string ⟨#[]⟩, v, .slice none 0 0] 26 (0, 0))) (hO : W.ownsRow (gr + 1) 26 6 v i cs) (hb : Below W.heap.size W W1)
    (hown : W2.ownsRow (gr + 1) 26 6 (.slice (some ⟨g, 0, none⟩) (i + 1) cap) (i + 1) (cs ++ nw)) (hgrow : W1.grownBy W2 v.ownBlock) (hB : Below wq.heap.size wq W) (hq : wq.heap.size ≤ gr) :
    (W2.setCell ⟨gr, 4, none⟩ (.slice (some ⟨g, 0, none⟩) (i + 1) cap)).heap[gr]? = some (.cells #[.int .i64 5, .int .i64 0, .int .u64 0, .string ⟨#[]⟩, .slice (some ⟨g, 0, none⟩) (i + 1) cap, .slice none 0 0] 26 (0, 0)) ∧ (W2.setCell ⟨gr, 4, none⟩ (.slice (some ⟨g, 0, none⟩) (i + 1) cap)).ownsRow (gr + 1) 26 6 (.slice (some ⟨g, 0, none⟩) (i + 1) cap) (i + 1) (cs ++ nw) ∧
      (∀ k o, k < gr → W.heap[k]? = some o → (W2.setCell ⟨gr, 4, none⟩ (.slice (some ⟨g, 0, none⟩) (i + 1) cap)).heap[k]? = some o) ∧ Below wq.heap.size wq (W2.setCell ⟨gr, 4, none⟩ (.slice (some ⟨g, 0, none⟩) (i + 1) cap)) := by
  have hlt : ∀ k, v.ownBlock = some k → gr + 1 ≤ k := fun k hk => (hO.lt k hk).1
  have hne : ∀ k, k ≤ gr → some k ≠ v.ownBlock := fun k hk h => by have := hlt k h.symm; omega
  have hgr := blk_lt hXR
  refine ⟨blk_put (blk_grown (blk_below hXR hb) hgrow (hne gr (Nat.le_refl _))) 4 _ rfl, own_move hown (fun k hk => Below.heap_setCell _ _ _ k ?_), fun k o hk ho => (Below.heap_setCell _ _ _ k (Nat.ne_of_lt hk)).trans (blk_grown (blk_below ho hb) hgrow (hne k (Nat.le_of_lt hk))), below_set ((below_step hB hb).grown hgrow (below_size (below_step hB hb)) (fun k hk => ?_)) hq⟩
  · have := (hown.lt k hk).1
    show k ≠ gr
    omega
  · have := hlt k hk
    omega
theorem rows_of_K {W : World} {x : V} {A : Option Addr} {c : Nat} (h : k26.K W x [.int .i64 x.f0, .int .i64 x.f1, .int .u64 x.f2, .string x.f3, .slice A x.f4.length c, .slice none 0 0]) (h5 : x.f5 = []) : Rows4 W x A c none 0 := by
  obtain ⟨A4, c4, A5, c5, e, l4, g4, l5, g5⟩ := k26_open h
  simp only [List.cons.injEq, Value.slice.injEq, true_and, and_true] at e
  obtain ⟨⟨rfl, rfl⟩, _⟩ := e
  exact ⟨g4, l4, by rw [h5]; exact Kd.C_nil _ _, by rw [h5]; exact Nat.le_refl _⟩
theorem nest_f5 : ∀ j, (nestV j).f5 = []
  | 0 => rfl
  | _ + 1 => rfl
theorem may_six (x : V) (A : Option Addr) (c : Nat) (W : World) (h : Rows4 W x A c none 0) (h5 : x.f5 = []) (b : Bool) (hb : mayB x = b) : Calls Tryd.prog 28 #[.agg #[.int .i64 x.f0, .int .i64 x.f1, .int .u64 x.f2, .string x.f3, .slice A x.f4.length c, .slice none 0 0]] W fun e w' => e = .returned (.bool b) ∧ Below W.heap.size W w' := by
  have t := May_calls x A c none 0 W h
  rw [hb] at t
  have e : x.f5.length = 0 := by rw [h5]; rfl
  rw [show (arg x A c none 0 : Value) = .agg #[.int .i64 x.f0, .int .i64 x.f1, .int .u64 x.f2, .string x.f3, .slice A x.f4.length c, .slice none 0 0] by show Value.agg _ = _; rw [e]] at t
  exact t
theorem step_run {P : Program} {ops : Array Oper} {o : Oper} {a : Act} {w : World} {K : Act → World → Prop} {Q : Exit → Act → World → Prop} {E : Prop} (hgd : o.guard = none) (h : Oper.wp P o a w K Q) : if Region.wanted o (yielded ops a.tmps) = true then Oper.wp P o a w K Q else E := by
  have hw : Region.wanted o (yielded ops a.tmps) = true := by simp [Region.wanted, hgd]
  rw [if_pos hw]
  exact h
theorem tmod12 (a : Int) : ∃ K : Nat, wrap64 (1 + wrap64 (Int.tmod (IntKind.u64.wrap a) 12)) = (K : Int) + 1 ∧ K < 12 := by
  have e : IntKind.u64.wrap a = a % 18446744073709551616 := rfl
  have h0 : 0 ≤ a % 18446744073709551616 := by omega
  obtain ⟨n, hn⟩ := Int.eq_ofNat_of_zero_le h0
  refine ⟨n % 12, ?_, Nat.mod_lt _ (by decide)⟩
  rw [e, hn]
  have e2 : Int.tmod (n : Int) 12 = ((n % 12 : Nat) : Int) := rfl
  rw [e2, Values.wrap_small ((n % 12 : Nat) : Int) (by omega) (by omega), Values.wrap_small _ (by omega) (by omega)]
  omega
theorem tmod20 (a : Int) : ∃ K : Nat, wrap64 (1 + wrap64 (Int.tmod (IntKind.u64.wrap a) 20)) = (K : Int) ∧ 1 ≤ K ∧ K < 21 := by
  have e : IntKind.u64.wrap a = a % 18446744073709551616 := rfl
  have h0 : 0 ≤ a % 18446744073709551616 := by omega
  obtain ⟨n, hn⟩ := Int.eq_ofNat_of_zero_le h0
  refine ⟨n % 20 + 1, ?_, by omega, by omega⟩
  rw [e, hn]
  have e2 : Int.tmod (n : Int) 20 = ((n % 20 : Nat) : Int) := rfl
  rw [e2, Values.wrap_small ((n % 20 : Nat) : Int) (by omega) (by omega), Values.wrap_small _ (by omega) (by omega)]
  omega

set_option maxHeartbeats 64000000 in
theorem valueDeep_calls (n m : Int) (w : World) (hT : Tabs w) : Calls Tryd.prog 7 #[.int .i64 n, .int .i64 m] w fun e w' => e = .returned (.bool true) ∧ Below w.heap.size w w' := by
  have hu26 := Tryd.underlying26
  have AW := Lib.hid (fun W (h : Below w.heap.size w W) => awake_calls W (hT.below h))
  clear hT
  have CN := Lib.hid num_calls
  go_enter Tryd.func7, Tryd.ntmps7
  go_upto_region 4 with (first | (go_at_call 35; (with_reducible refine (AW.out _ (Below.refl _ _)).mono ?_); rintro e w1 ⟨rfl, hbn⟩; have HB := Lib.hid hbn; clear hbn))
  obtain ⟨K, hK, hK12⟩ := tmod12 n
  rw [hK]
  clear hK AW
  go_upto_region 5 with (first | (go_at_call 38; refine (CN.out _ _).mono ?_; rintro e w2 ⟨rfl, hb2⟩; have B2 := Lib.hid (below_step HB.out hb2); clear hb2))
  have XV := Lib.hid (blk_new w2 (.cells #[.int .i64 2, .int .i64 1, .int .u64 0, .string ⟨#[]⟩, .slice none 0 0, .slice none 0 0] 26))
  have FV := Lib.hid (show Fr w2.heap.size (w2.alloc (.cells #[.int .i64 2, .int .i64 1, .int .u64 0, .string ⟨#[]⟩, .slice none 0 0, .slice none 0 0] 26)) (fun W1 => k26.K W1 (nestV 0) [.int .i64 2, .int .i64 1, .int .u64 0, .string ⟨#[]⟩, .slice none 0 0, .slice none 0 0]) from fun W1 _ => leafV W1 (numV 1) rfl rfl)
  have HB3 := Lib.hid (below_alloc B2.out (.cells #[.int .i64 2, .int .i64 1, .int .u64 0, .string ⟨#[]⟩, .slice none 0 0, .slice none 0 0] 26))
  have hgv := Lib.hid (below_size B2.out)
  clear HB B2
  generalize w2.alloc (.cells #[.int .i64 2, .int .i64 1, .int .u64 0, .string ⟨#[]⟩, .slice none 0 0, .slice none 0 0] 26) = w3 at *
  generalize w2.heap.size = gv at *
  go_wp2
  go_loopg [7] K (fun kq v7 wr => ∃ (j : Nat) (x : V) (A : Option Addr) (c : Nat), v7 = .int .i64 ((j : Int) + 1) ∧ Aside0 (j + kq = K ∧ x = nestV j) ∧ Aside0 (wr.heap[gv]? = some (.cells #[.int .i64 x.f0, .int .i64 x.f1, .int .u64 x.f2, .string x.f3, .slice A x.f4.length c, .slice none 0 0] 26 (0, 0))) ∧ Aside0 (Fr gv wr (fun W1 => k26.K W1 x [.int .i64 x.f0, .int .i64 x.f1, .int .u64 x.f2, .string x.f3, .slice A x.f4.length c, .slice none 0 0])) ∧ Aside0 (Below w.heap.size w wr))
  case atStart => exact ⟨0, nestV 0, none, 0, rfl, ⟨by omega, rfl⟩, ⟨XV.out⟩, ⟨FV.out⟩, ⟨HB3.out⟩⟩
  case round =>
  clear XV FV HB3
  obtain ⟨j, x, A, c, rfl, HQ, XV0, FV0, HB0⟩ := hrel
  have XV := Lib.hid XV0.out; have FV := Lib.hid FV0.out; have HB := Lib.hid HB0.out
  obtain ⟨hj, hx⟩ := HQ.out
  have HX := Lib.hid hx; clear hx
  clear XV0 FV0 HB0 HQ
  obtain ⟨v0, v1, v2, v3, v4, v5⟩ := six XV.out
  cases gk with
  | zero =>
    have hlt : decide ((j : Int) + 1 < (K : Int) + 1) = false := decide_eq_false (by omega)
    have hjK : j = K := by omega
    subst hjK
    clear hj
    have KX : Hid (k26.K wr x [.int .i64 x.f0, .int .i64 x.f1, .int .u64 x.f2, .string x.f3, .slice A x.f4.length c, .slice none 0 0]) := Lib.hid FV.out.self
    have HBw := Lib.hid HB.out
    have HB' := Lib.hid (Below.refl wr.heap.size wr)
    have MV0 := Lib.hid (nest_of j hK12)
    clear FV hgv HB hK12 hlt
    have HB := HB'; clear HB'
    clear v0 v1 v2 v3 v4 v5
    go_upto_region 10 with (fail)
    obtain ⟨M, hM, hM1, hM2⟩ := tmod20 m
    rw [hM]
    clear hM
    have HM := Lib.hid (And.intro hM1 hM2)
    clear hM1 hM2
    go_upto_region 11 with (fail)
    have hgvr := blk_lt XV.out
    have XV' := Lib.hid (blk_alloc XV.out (.cells #[.int .i64 5, .int .i64 0, .int .u64 0, .string ⟨#[]⟩, .slice none 0 0, .slice none 0 0] 26)); clear XV; have XV := XV'; clear XV'
    have XR := Lib.hid (blk_new wr (.cells #[.int .i64 5, .int .i64 0, .int .u64 0, .string ⟨#[]⟩, .slice none 0 0, .slice none 0 0] 26))
    have HB' := Lib.hid (below_alloc HB.out (.cells #[.int .i64 5, .int .i64 0, .int .u64 0, .string ⟨#[]⟩, .slice none 0 0, .slice none 0 0] 26)); clear HB; have HB := HB'; clear HB'
    have hgr := Lib.hid (Nat.le_refl wr.heap.size)
    have hsz := Lib.hid (show wr.heap.size < (wr.alloc (.cells #[.int .i64 5, .int .i64 0, .int .u64 0, .string ⟨#[]⟩, .slice none 0 0, .slice none 0 0] 26)).heap.size by simp)
    generalize wr.alloc (.cells #[.int .i64 5, .int .i64 0, .int .u64 0, .string ⟨#[]⟩, .slice none 0 0, .slice none 0 0] 26) = wa at *
    generalize hgrE : wr.heap.size = gr at *
    generalize wr = wq at *
    go_wp2
    go_loopg [10] 60 (fun kq v10 wr => ∃ (i : Nat) (v : Value), v10 = .int .i64 (i : Int) ∧ Aside0 (i + kq = 60) ∧ Aside0 (wr.heap[gr]? = some (.cells #[.int .i64 5, .int .i64 0, .int .u64 0, .string ⟨#[]⟩, v, .slice none 0 0] 26 (0, 0))) ∧ Aside0 (wr.ownsRow (gr + 1) 26 6 v i (numCells i)) ∧ Aside0 (wr.heap[gv]? = some (.cells #[.int .i64 x.f0, .int .i64 x.f1, .int .u64 x.f2, .string x.f3, .slice A x.f4.length c, .slice none 0 0] 26 (0, 0))) ∧ Aside0 (Below wq.heap.size wq wr))
    case atStart => exact ⟨0, .slice none 0 0, rfl, ⟨rfl⟩, ⟨XR.out⟩, ⟨World.ownsRow_nil _ _ _ _⟩, ⟨XV.out⟩, ⟨by rw [hgrE]; exact HB.out⟩⟩
    case round =>
    have HGR := Lib.hid hgrE
    have hvr := Lib.hid (show gv < gr from hgvr)
    clear XV XR HB hgrE hsz hgvr
    obtain ⟨i, v, rfl, HQ, XR0, HO0, XV0, HB0⟩ := hrel
    have XR := Lib.hid XR0.out; have HO := Lib.hid HO0.out; have XV := Lib.hid XV0.out; have HB := Lib.hid HB0.out
    have hi := HQ.out
    clear XR0 HO0 XV0 HB0 HQ
    obtain ⟨v0, v1, v2, v3, v4, v5⟩ := six XR.out
    cases gk with
    | zero =>
      have hlt : decide ((i : Int) < 60) = false := decide_eq_false (by omega)
      obtain rfl : i = 60 := by omega
      clear v0 v1 v2 v3 v4 v5 hlt hi
      obtain ⟨AR, cR, rfl, hcR, hCR⟩ := own_reads HO.out (reps_nums wr 60) (by simp [numsV])
      have KR : Hid (k26.K wr (rowT 60) [.int .i64 5, .int .i64 0, .int .u64 0, .string ⟨#[]⟩, .slice AR 60 cR, .slice none 0 0]) := Lib.hid (by
        have h1 := k26_mk wr (rowT 60) (A4 := AR) (c4 := cR) (by simp [rowT, numsV]; omega) (by simpa [rowT, numsV] using hCR) (A5 := none) (c5 := 0) (Nat.le_refl _) (Kd.C_nil _ _)
        have e : (rowT 60).f4.length = 60 := by simp [rowT, numsV]
        rw [e] at h1
        exact h1)
      clear hcR hCR HO CN
      have KX' := Lib.hid (k26.K_below HB.out KX.out); clear KX; have KX := KX'; clear KX'
      have HB' := Lib.hid (below_step HBw.out HB.out); clear HB HBw; have HBw := HB'; clear HB'
      go_upto_region 16 with (fail)
      have XV' := Lib.hid (blk_alloc XV.out (.cells #[.int .i64 5, .int .i64 0, .int .u64 0, .string ⟨#[]⟩, .slice none 0 0, .slice none 0 0] 26)); have XR' := Lib.hid (blk_alloc XR.out (.cells #[.int .i64 5, .int .i64 0, .int .u64 0, .string ⟨#[]⟩, .slice none 0 0, .slice none 0 0] 26))
      have hgvw := Lib.hid (blk_lt XV.out); have hgrw := Lib.hid (blk_lt XR.out)
      clear XV XR; have XV := XV'; have XR := XR'; clear XV' XR'
      have XW := Lib.hid (blk_new wr (.cells #[.int .i64 5, .int .i64 0, .int .u64 0, .string ⟨#[]⟩, .slice none 0 0, .slice none 0 0] 26))
      have HB := Lib.hid (below_alloc (Below.refl wr.heap.size wr) (.cells #[.int .i64 5, .int .i64 0, .int .u64 0, .string ⟨#[]⟩, .slice none 0 0, .slice none 0 0] 26))
      generalize wr.alloc (.cells #[.int .i64 5, .int .i64 0, .int .u64 0, .string ⟨#[]⟩, .slice none 0 0, .slice none 0 0] 26) = wb at *
      generalize hgwE : wr.heap.size = gw at *
      generalize wr = wp at *
      go_wp2
      go_loopg [12] M (fun kq v12 wr => ∃ (i : Nat) (v : Value), v12 = .int .i64 (i : Int) ∧ Aside0 (i + kq = M) ∧ Aside0 (wr.heap[gw]? = some (.cells #[.int .i64 5, .int .i64 0, .int .u64 0, .string ⟨#[]⟩, v, .slice none 0 0] 26 (0, 0))) ∧ Aside0 (wr.ownsRow (gw + 1) 26 6 v i (manyCells [.int .i64 5, .int .i64 0, .int .u64 0, .string ⟨#[]⟩, .slice AR 60 cR, .slice none 0 0] i)) ∧ Aside0 (wr.heap[gv]? = some (.cells #[.int .i64 x.f0, .int .i64 x.f1, .int .u64 x.f2, .string x.f3, .slice A x.f4.length c, .slice none 0 0] 26 (0, 0))) ∧ Aside0 (wr.heap[gr]? = some (.cells #[.int .i64 5, .int .i64 0, .int .u64 0, .string ⟨#[]⟩, .slice AR 60 cR, .slice none 0 0] 26 (0, 0))) ∧ Aside0 (Below wp.heap.size wp wr))
      case atStart => exact ⟨0, .slice none 0 0, rfl, ⟨by omega⟩, ⟨XW.out⟩, ⟨World.ownsRow_nil _ _ _ _⟩, ⟨XV.out⟩, ⟨XR.out⟩, ⟨by rw [hgwE]; exact HB.out⟩⟩
      case round =>
      have HGW := Lib.hid hgwE
      clear XV XR XW HB hgwE
      obtain ⟨i, v, rfl, HQ, XW0, HO0, XV0, XR0, HB0⟩ := hrel
      have XW := Lib.hid XW0.out; have XR := Lib.hid XR0.out; have HO := Lib.hid HO0.out; have XV := Lib.hid XV0.out; have HB := Lib.hid HB0.out
      have hi := HQ.out
      clear XW0 XR0 HO0 XV0 HB0 HQ
      obtain ⟨w0, w1, w2, w3, w4, w5⟩ := six XW.out
      cases gk with
      | zero =>
        have hlt : decide ((i : Int) < (M : Int)) = false := decide_eq_false (by omega)
        obtain rfl : i = M := by omega
        clear hi hlt w0 w1 w2 w3 w4 w5
        obtain ⟨AW, cW, rfl, hcW, hCW⟩ := own_reads HO.out (reps_many wr (rowT 60) [.int .i64 5, .int .i64 0, .int .u64 0, .string ⟨#[]⟩, .slice AR 60 cR, .slice none 0 0] (k26.K_below HB.out KR.out) i) (by simp)
        have RW : Rows4 wr (manyT i) AW cW none 0 := ⟨by simpa [manyT] using hCW, by simpa [manyT] using hcW, Kd.C_nil _ _, Nat.le_refl _⟩
        have X5 : x.f5 = [] := by rw [HX.out]; exact nest_f5 j
        have RX := rows_of_K (k26.K_below HB.out KX.out) X5
        obtain ⟨bn, hbn⟩ : ∃ b, decide ((j : Int) + 1 ≤ 8) = b := ⟨_, rfl⟩
        obtain ⟨bm, hbm⟩ : ∃ b, decide (1 + 61 * (i : Int) ≤ 1024) = b := ⟨_, rfl⟩
        have M1 := Lib.hid (fun W (h : Below wr.heap.size wr W) => may_six x A c W (RX.below h) X5 bn (by rw [HX.out, MV0.out, hbn]))
        have M2 := Lib.hid (show ∀ W, Below wr.heap.size wr W → Calls Tryd.prog 28 #[.agg #[.int .i64 5, .int .i64 0, .int .u64 0, .string ⟨#[]⟩, .slice AW i cW, .slice none 0 0]] W fun e w' => e = .returned (.bool bm) ∧ Below W.heap.size W w' from fun W h => by
          have t := may_six (manyT i) AW cW W (RW.below h) rfl bm (by rw [many_of i HM.out.2, hbm])
          rw [show (manyT i).f4.length = i by simp [manyT]] at t
          exact t)
        have wm : wrap64 (61 * (i : Int)) = 61 * (i : Int) := Values.wrap_small _ (by omega) (by have := HM.out.2; omega)
        have wm2 : wrap64 (1 + 61 * (i : Int)) = 1 + 61 * (i : Int) := Values.wrap_small _ (by omega) (by have := HM.out.2; omega)
        have HBf := Lib.hid (below_step HBw.out HB.out)
        have HQ := Lib.hid (Below.refl wr.heap.size wr)
        clear RW RX X5 hCW hcW HX HM KX KR HB HBw MV0 XR HO
        obtain ⟨x0, x1, x2, x3, x4, x5⟩ := six XV.out
        go_wp2_with (first
          | (go_at_call 28; (with_reducible refine (M1.out _ HQ.out).mono ?_); rintro e wn ⟨rfl, hbw⟩; have HQ2 := Lib.hid (below_step HQ.out hbw); clear HQ hbw; have HQ := HQ2; clear HQ2; have XW2 := Lib.hid (blk_below XW.out HQ.out); obtain ⟨y0, y1, y2, y3, y4, y5⟩ := six XW2.out)
          | (go_at_call 28; (with_reducible refine (M2.out _ HQ.out).mono ?_); rintro e wn ⟨rfl, hbw⟩; have HQ2 := Lib.hid (below_step HQ.out hbw); clear HQ hbw; have HQ := HQ2; clear HQ2))
        all_goals go_ret
        all_goals exact ⟨by simp, below_step HBf.out HQ.out⟩
      | succ k2 =>
        have hm21 := HM.out.2
        have hlt : decide ((i : Int) < (M : Int)) = true := decide_eq_true (by omega)
        have wi : wrap64 ((i : Int) + 1) = (i : Int) + 1 := Values.wrap_small _ (by omega) (by omega)
        have HI := Lib.hid (show i < 21 by omega)
        have HNE := Lib.hid (show some gw ≠ v.ownBlock from fun h => by have := (HO.out.lt gw h.symm).1; omega)
        obtain ⟨i0, hi0, hz0, hz1, hz2⟩ := info_parts Q.info26
        have hgs := Lib.hid (blk_lt XW.out)
        obtain ⟨r0, r1, r2, r3, r4, r5⟩ := six XR.out
        have WI := Lib.hid wi
        clear hm21 wi
        go_wp2_with (at_builtin; refine wpList_append_lies _ rfl (.tmp 53) (.tmp 55) 23 rfl (gw + 1) 26 i0 _ 6 88 Tryd.underlying23 hi0 hz0 hz1 hz2 rfl (by decide) v i (manyCells [.int .i64 5, .int .i64 0, .int .u64 0, .string ⟨#[]⟩, .slice AR 60 cR, .slice none 0 0] i) rfl (own_move HO.out (fun k hk => (below_alloc (Below.refl wr.heap.size wr) _).block k (HO.out.lt k hk).2)) ⟨wr.heap.size, 0, none⟩ 1 1 [.int .i64 5, .int .i64 0, .int .u64 0, .string ⟨#[]⟩, .slice AR 60 cR, .slice none 0 0] rfl rfl (fun j_ u_ hj_ => World.news_of_block (blk_new wr (.cells #[.int .i64 5, .int .i64 0, .int .u64 0, .string ⟨#[]⟩, .slice AR 60 cR, .slice none 0 0] 26)) j_ u_ hj_) (by intro u_ hu_; simp at hu_; rcases hu_ with rfl | rfl | rfl | rfl | rfl | rfl <;> rfl) (by decide) (by have := HI.out; unfold maxLen; omega) (by have := HI.out; omega) (Nat.le_trans hgs.out (below_size (below_alloc (Below.refl wr.heap.size wr) _))) _ rfl ?_; intro g cap w1 hown hgrow hat hlt1; have HK1 := (hgrow.cell_far ⟨gw, 4, none⟩ (Nat.lt_of_lt_of_le hgs.out (below_size (below_alloc (Below.refl wr.heap.size wr) _))) HNE.out).trans (pw_cell_below (below_alloc (Below.refl wr.heap.size wr) _) w4); have HK2 := (hgrow.frozen_far ⟨gw, 4, none⟩ (Nat.lt_of_lt_of_le hgs.out (below_size (below_alloc (Below.refl wr.heap.size wr) _))) HNE.out).trans (blk_frozen (blk_alloc XW.out _) 4); have HG := Lib.hid (And.intro hown hgrow); clear hown hgrow hat hlt1)
        go_roundg k2
        case measure => omega
        case rel =>
          have hs := app_step XW.out HO.out (below_alloc (Below.refl wr.heap.size wr) _) HG.out.1 HG.out.2 HB.out (Nat.le_of_eq HGW.out)
          exact ⟨i + 1, _, by rw [WI.out]; push_cast; rfl, ⟨by omega⟩, ⟨hs.1⟩, ⟨by rw [manyCells_succ]; exact hs.2.1⟩, ⟨hs.2.2.1 _ _ hgvw.out XV.out⟩, ⟨hs.2.2.1 _ _ hgrw.out XR.out⟩, ⟨hs.2.2.2⟩⟩
    | succ k2 =>
      have hlt : decide ((i : Int) < 60) = true := decide_eq_true (by omega)
      have wi : wrap64 ((i : Int) + 1) = (i : Int) + 1 := Values.wrap_small _ (by omega) (by omega)
      have hne : some gr ≠ v.ownBlock := fun h => by have := (HO.out.lt gr h.symm).1; omega
      have HNE := Lib.hid hne
      clear hne
      obtain ⟨i0, hi0, hz0, hz1, hz2⟩ := info_parts Q.info26
      have HOD := Lib.hid (own_move (w1 := wr.drew) HO.out (fun _ _ => rfl))
      have hgs := Lib.hid (blk_lt XR.out)
      have f4 := blk_frozen XR.out 4
      have hi60 := Lib.hid (show i < 60 by omega)
      go_upto_region 14 with (fail)
      have KEEP := Lib.hid (show ∀ w1 : World, Below wr.heap.size wr w1 → (w1.cell? ⟨gr, 4, none⟩ = some v ∧ w1.frozen? ⟨gr, 4, none⟩ = false) from fun w1 hb => ⟨pw_cell_below hb v4, blk_frozen (blk_below XR.out hb) 4⟩)
      go_region_law
        (first
          | (refine step_run rfl ?_; go_simp; go_at_call 38; (with_reducible refine (CN.out _ _).mono ?_); rintro e wn ⟨rfl, hb⟩; have hb3 := Lib.hid (below_step (below_drew (Below.refl _ _)) hb : Below wr.heap.size wr wn); clear hb; have w4 := (KEEP.out _ hb3.out).1; have w4a := fun o => (KEEP.out _ (below_alloc hb3.out o)).1)
          | (refine step_append_lies _ rfl (.tmp 40) (.tmp 43) 23 rfl (gr + 1) 26 i0 _ 6 88 Tryd.underlying23 hi0 hz0 hz1 hz2 rfl (by decide) v i (numCells i) rfl (own_move HO.out (fun k hk => (below_alloc hb3.out _).block k (HO.out.lt k hk).2)) ⟨wn.heap.size, 0, none⟩ 1 1 [.int .i64 2, .int .i64 (i : Int), .int .u64 0, .string ⟨#[]⟩, .slice none 0 0, .slice none 0 0] rfl rfl (fun j_ u_ hj_ => World.news_of_block (blk_new wn (.cells #[.int .i64 2, .int .i64 (i : Int), .int .u64 0, .string ⟨#[]⟩, .slice none 0 0, .slice none 0 0] 26)) j_ u_ hj_) (by intro u_ hu_; simp at hu_; rcases hu_ with rfl | rfl | rfl | rfl | rfl | rfl <;> rfl) (by decide) (by have := hi60.out; unfold maxLen; omega) (by have := hi60.out; omega) (Nat.le_trans hgs.out (below_size (below_alloc hb3.out _))) _ rfl ?_; intro g cap w1 hown hgrow hat hlt1; have HK1 := (hgrow.cell_far ⟨gr, 4, none⟩ (Nat.lt_of_lt_of_le hgs.out (below_size (below_alloc hb3.out _))) HNE.out).trans (KEEP.out _ (below_alloc hb3.out _)).1; have HK2 := (hgrow.frozen_far ⟨gr, 4, none⟩ (Nat.lt_of_lt_of_le hgs.out (below_size (below_alloc hb3.out _))) HNE.out).trans (KEEP.out _ (below_alloc hb3.out _)).2; have HG := Lib.hid (And.intro hown (And.intro hgrow hat)); clear hown hgrow hat hlt1))
      all_goals
        go_wp2
        go_roundg k2
        case measure => omega
        case rel =>
          have hs := app_step XR.out HO.out (below_alloc hb3.out _) HG.out.1 HG.out.2.1 HB.out (Nat.le_of_eq HGR.out)
          exact ⟨i + 1, _, by push_cast; rfl, ⟨by omega⟩, ⟨hs.1⟩, ⟨by rw [numCells_succ]; exact hs.2.1⟩, ⟨hs.2.2.1 _ _ hvr.out XV.out⟩, ⟨hs.2.2.2⟩⟩
  | succ k2 =>
    have hlt : decide ((j : Int) + 1 < (K : Int) + 1) = true := decide_eq_true (by omega)
    have wi : wrap64 ((j : Int) + 1 + 1) = (j : Int) + 1 + 1 := Values.wrap_small _ (by omega) (by omega)
    have hXa := blk_alloc XV.out (.cells #[.int .i64 x.f0, .int .i64 x.f1, .int .u64 x.f2, .string x.f3, .slice A x.f4.length c, .slice none 0 0] 26)
    have xc0 := (blk_cell hXa 0).trans rfl; have xf0 := blk_frozen hXa 0; have xc1 := (blk_cell hXa 1).trans rfl; have xf1 := blk_frozen hXa 1; have xc2 := (blk_cell hXa 2).trans rfl; have xf2 := blk_frozen hXa 2; have xc3 := (blk_cell hXa 3).trans rfl; have xf3 := blk_frozen hXa 3; have xc4 := (blk_cell hXa 4).trans rfl; have xf4 := blk_frozen hXa 4; have xc5 := (blk_cell hXa 5).trans rfl; have xf5 := blk_frozen hXa 5
    go_wp2
    go_roundg k2
    case measure => omega
    case rel =>
      refine ⟨j + 1, ⟨5, 0, 0, ⟨#[]⟩, [x], []⟩, some ⟨wr.heap.size, 0, none⟩, 1, by push_cast; rfl, ⟨by omega, by rw [HX.out]; rfl⟩, ⟨six_putV hXa _ _ _ _ _ _⟩, ⟨?_⟩, ⟨six_belowV (below_alloc HB.out _) hgv.out _ _ _ _ _ _⟩⟩
      refine nest_step FV.out (blk_lt XV.out) (by simp) (fun k h1 h2 => (six_farV (Nat.ne_of_gt h1) _ _ _ _ _ _).trans ?_) ((six_farV (Ne.symm (Nat.ne_of_lt (blk_lt XV.out))) _ _ _ _ _ _).trans (blk_new _ _))
      exact (below_alloc (Below.refl wr.heap.size wr) _).block k h2
end Go.Proofs.YtepolmajebdphaaDoor.Values
