/- Package fns, walked: the functions' names; does. · Package fns, walked: Call. · fns.Call's contract in the form of the kit's print. -/
import Derived.Test.YtdghnfmhcnlppaaGreatDoorFnsC
import Derived.Test.YtdghnfmhcnlppaaGreatDoorFnsE
import Derived.Test.YtdghnfmhcnlppaaGreatDoorValues
import Derived.Test.YtdghnfmhcnlppaaGreatDoorValuesU
namespace Go.Proofs.YtdghnfmhcnlppaaGreatDoor.Fns
open Go.RowKit Go.Proofs.YtdghnfmhcnlppaaGreatDoor.Q Go.Proofs.YtdghnfmhcnlppaaGreatDoor.Real Go.Proofs.YtdghnfmhcnlppaaGreatDoor.RealPure Go.Proofs.YtdghnfmhcnlppaaGreatDoor.Values Go.Proofs.YtdghnfmhcnlppaaGreatDoorW.PrintWords Go.Proofs.YtdghnfmhcnlppaaGreatDoorW.PrintLast Go.Proofs.YtdghnfmhcnlppaaGreatDoorW.PrintMore
set_option linter.unusedSimpArgs false
set_option linter.unusedVariables false

/-- A function's number; 8: it is none. -/
def fnNo (nm : ByteArray) : Nat :=
  if (nm.toList == ([108, 101, 110] : List UInt8)) = true then 0 else
  if (nm.toList == ([105, 110, 100, 101, 120] : List UInt8)) = true then 1 else
  if (nm.toList == ([101, 113] : List UInt8)) = true then 2 else
  if (nm.toList == ([108, 116] : List UInt8)) = true then 3 else
  if (nm.toList == ([110, 111, 116] : List UInt8)) = true then 4 else
  if (nm.toList == ([97, 110, 100] : List UInt8)) = true then 5 else
  if (nm.toList == ([111, 114] : List UInt8)) = true then 6 else
  if (nm.toList == ([99, 97, 116] : List UInt8)) = true then 7 else 8
theorem names_of (nm : ByteArray) (P : Prop) (h : ∀ b0 b1 b2 b3 b4 b5 b6 b7 : Bool, ∀ f : Nat, fnNo nm = f → (nm.toList == ([108, 101, 110] : List UInt8)) = b0 → (nm.toList == ([105, 110, 100, 101, 120] : List UInt8)) = b1 → (nm.toList == ([101, 113] : List UInt8)) = b2 → (nm.toList == ([108, 116] : List UInt8)) = b3 → (nm.toList == ([110, 111, 116] : List UInt8)) = b4 → (nm.toList == ([97, 110, 100] : List UInt8)) = b5 → (nm.toList == ([111, 114] : List UInt8)) = b6 → (nm.toList == ([99, 97, 116] : List UInt8)) = b7 →
      (b0, b1, b2, b3, b4, b5, b6, b7, f) ∈ ([(true, false, false, false, false, false, false, false, 0), (false, true, false, false, false, false, false, false, 1), (false, false, true, false, false, false, false, false, 2), (false, false, false, true, false, false, false, false, 3), (false, false, false, false, true, false, false, false, 4), (false, false, false, false, false, true, false, false, 5), (false, false, false, false, false, false, true, false, 6), (false, false, false, false, false, false, false, true, 7), (false, false, false, false, false, false, false, false, 8)] : List (Bool × Bool × Bool × Bool × Bool × Bool × Bool × Bool × Nat)) → P) : P := by
  refine h _ _ _ _ _ _ _ _ _ rfl rfl rfl rfl rfl rfl rfl rfl rfl ?_
  unfold fnNo
  by_cases h0 : nm.toList = ([108, 101, 110] : List UInt8)
  · rw [h0]; decide
  by_cases h1 : nm.toList = ([105, 110, 100, 101, 120] : List UInt8)
  · rw [h1]; decide
  by_cases h2 : nm.toList = ([101, 113] : List UInt8)
  · rw [h2]; decide
  by_cases h3 : nm.toList = ([108, 116] : List UInt8)
  · rw [h3]; decide
  by_cases h4 : nm.toList = ([110, 111, 116] : List UInt8)
  · rw [h4]; decide
  by_cases h5 : nm.toList = ([97, 110, 100] : List UInt8)
  · rw [h5]; decide
  by_cases h6 : nm.toList = ([111, 114] : List UInt8)
  · rw [h6]; decide
  by_cases h7 : nm.toList = ([99, 97, 116] : List UInt8)
  · rw [h7]; decide
  rw [beq_eq_false_iff_ne.2 h0, beq_eq_false_iff_ne.2 h1, beq_eq_false_iff_ne.2 h2, beq_eq_false_iff_ne.2 h3, beq_eq_false_iff_ne.2 h4, beq_eq_false_iff_ne.2 h5, beq_eq_false_iff_ne.2 h6, beq_eq_false_iff_ne.2 h7]
  decide
/-- What a function answers, of as many arguments as it wants. -/
def doesR (f : Nat) (args : List V) : V × Int := match f with
  | 0 => lengthR (rd_T27 args 0)
  | 1 => indexR (rd_T27 args 0) (rd_T27 args 1)
  | 2 => (boolV (mayB (rd_T27 args 0) && mayB (rd_T27 args 1) && sameD 8 (rd_T27 args 0) (rd_T27 args 1)), 0)
  | 3 => if lessE (rd_T27 args 0) (rd_T27 args 1) = 0 then (boolV (lessB (rd_T27 args 0) (rd_T27 args 1)), 0) else (z27, 1802)
  | 4 => (boolV (!truthB (rd_T27 args 0)), 0)
  | 5 => (pickR args false, 0)
  | 6 => (pickR args true, 0)
  | _ => catR args
/-- What a call of a function rests on. -/
structure Args (w : World) (A : Option Addr) (xs : List V) : Prop where
  tabs : Tabs w
  few : xs.length < 2199023255552
  row : Kd.C k27 w A xs.length xs
  may : ∀ z ∈ xs, mayB z = true ∧ rngD 8 z
def Done (w w' : World) (xs : List V) (e : Ending) (R : V × Int) : Prop := ∃ B4 d4 B5 d5, e = .returned (.tuple #[arg R.1 B4 d4 B5 d5, .int .i64 R.2]) ∧ Rows4 w' R.1 B4 d4 B5 d5 ∧ (∃ d, fitD d R.1) ∧ Below w.heap.size w w'

theorem rows_nil (W : World) (x : V) (h4 : x.f4 = []) (h5 : x.f5 = []) : Rows4 W x none 0 none 0 := by
  refine ⟨?_, ?_, ?_, ?_⟩
  · rw [h4]; exact Kd.C_nil _ _
  · rw [h4]; exact Nat.le_refl _
  · rw [h5]; exact Kd.C_nil _ _
  · rw [h5]; exact Nat.le_refl _
theorem fit_nil (x : V) (h4 : x.f4 = []) (h5 : x.f5 = []) : ∃ d, fitD d x := by
  refine ⟨1, ?_, ?_, ?_⟩
  · rw [h4]; exact Nat.zero_le _
  · rw [h5]; exact Nat.zero_le _
  · rw [h4]; intro z hz; cases hz
theorem length_nil (x : V) : (lengthR x).1.f4 = [] ∧ (lengthR x).1.f5 = [] := by
  unfold lengthR
  split
  · exact ⟨rfl, rfl⟩
  · split <;> exact ⟨rfl, rfl⟩
theorem cat_nil : ∀ (xs : List V) (acc : List UInt8) (lg : Bool), (catL xs acc lg).1.f4 = [] ∧ (catL xs acc lg).1.f5 = []
  | [], acc, lg => by
    unfold catL
    split <;> exact ⟨rfl, rfl⟩
  | x :: xs, acc, lg => by
    unfold catL
    split
    · split
      · exact cat_nil xs _ _
      · exact cat_nil xs _ _
    · exact ⟨rfl, rfl⟩
theorem fit_may (x : V) (h : mayB x = true) : ∃ d, fitD d x := ⟨8, fit_of_ok 8 x (okG_of_may 8 x 1024 h)⟩
theorem rng_top {x : V} (h : rngD 8 x) : 0 ≤ x.f2 ∧ x.f2 < 2 ^ 64 := ⟨h.1, h.2.1⟩
theorem six_put {W : World} {g : Nat} {t : TypeId} {o0 o1 o2 o3 o4 o5 : Value} (h : W.heap[g]? = some (.cells #[o0, o1, o2, o3, o4, o5] t (0, 0))) (v0 v1 v2 v3 v4 v5 : Value) :
    ((((((W.setCell ⟨g, 0, none⟩ v0).setCell ⟨g, 1, none⟩ v1).setCell ⟨g, 2, none⟩ v2).setCell ⟨g, 3, none⟩ v3).setCell ⟨g, 4, none⟩ v4).setCell ⟨g, 5, none⟩ v5).heap[g]? = some (.cells #[v0, v1, v2, v3, v4, v5] t (0, 0)) :=
  blk_put (blk_put (blk_put (blk_put (blk_put (blk_put h 0 v0 rfl) 1 v1 rfl) 2 v2 rfl) 3 v3 rfl) 4 v4 rfl) 5 v5 rfl
theorem six_below {w W : World} {g : Nat} (h : Below w.heap.size w W) (hg : w.heap.size ≤ g) (v0 v1 v2 v3 v4 v5 : Value) :
    Below w.heap.size w ((((((W.setCell ⟨g, 0, none⟩ v0).setCell ⟨g, 1, none⟩ v1).setCell ⟨g, 2, none⟩ v2).setCell ⟨g, 3, none⟩ v3).setCell ⟨g, 4, none⟩ v4).setCell ⟨g, 5, none⟩ v5) :=
  below_set (below_set (below_set (below_set (below_set (below_set h hg) hg) hg) hg) hg) hg

set_option maxHeartbeats 8000000 in
set_option maxRecDepth 100000 in
theorem does0 (nm : ByteArray) (n0 : (nm.toList == ([108, 101, 110] : List UInt8)) = true) (xs : List V) (A : Option Addr) (c : Nat) (w : World) (hA : Args w A xs) (h1 : 1 ≤ xs.length) :
    Calls Tryz.prog 37 #[.string nm, .slice A xs.length c] w fun e w' => Done w w' xs e (doesR 0 xs) := by
  have hu27 := Tryz.underlying27
  obtain ⟨ad, E4, e4, E5, e5, rfl, hAt', hl4, hk4, hl5, hk5⟩ := At.of_elem hA.row 0 (by omega) (by omega)
  have hAt : At w ad (rd_T27 xs 0) E4 e4 E5 e5 := hAt'
  have HX := Lib.hid (hA.may _ (rd_mem xs 0 (by omega) (by omega)))
  have q1 : ((0 : Int) < (xs.length : Int)) = True := eq_true (by omega)
  have q2 : (0 < xs.length) = True := eq_true (by omega)
  have RX := Lib.hid (⟨hk4, hl4, hk5, hl5⟩ : Rows4 w (rd_T27 xs 0) E4 e4 E5 e5)
  have A2 := Lib.hid (blk_new w zeros)
  have A3 := Lib.hid (below_alloc (Below.refl _ w) zeros)
  have hAt2 := hAt.below (below_alloc (Below.refl _ w) zeros)
  have CL := Lib.hid (length_calls ad (rd_T27 xs 0) E4 e4 E5 e5 _ hAt2)
  show Calls _ _ _ _ fun e w' => Done w w' xs e (lengthR (rd_T27 xs 0))
  have hn := length_nil (rd_T27 xs 0)
  generalize lengthR (rd_T27 xs 0) = R at *
  have HN := Lib.hid hn
  clear hAt2 hA h1 hn
  clear hAt hAt' hl4 hk4 hl5 hk5
  go_enter Tryz.func37, Tryz.ntmps37
  go_upto_region 1 with (fail)
  generalize hw4 : w.alloc zeros = w4 at *
  clear hw4
  go_wp2_with (first | (go_at_call 61; refine CL.out.mono ?_; rintro e w6 ⟨rfl, hb6⟩; have BZ6 := Lib.hid (blk_below A2.out hb6); have HB6 := Lib.hid (below_step A3.out hb6); clear hb6) | ((with_reducible refine gate_store (t := 27) (p := 4) rfl ?_); refine row_event (by rfl) (by rfl) (by rfl) (by rfl) (by rfl) BZ6.out (by exact size27) (by rfl) (by first | rfl | simp [Value.oneCell']) ?_; intro w8 hz8 ho8 hb8; have Z8 := Lib.hid hz8; have HB8 := Lib.hid (hb8 (Nat.le_refl _) HB6.out); clear hb8 ho8 hz8))
  refine bodyPost_ret (results_cell_row_tmp rfl _ _ w.heap.size 27 _ (0, 0) _ rfl Z8.out hu27 rfl (by exact size27)) rfl ?_
  exact ⟨none, 0, none, 0, rfl, rows_nil _ _ HN.out.1 HN.out.2, fit_nil _ HN.out.1 HN.out.2, HB8.out⟩
set_option maxHeartbeats 8000000 in
set_option maxRecDepth 100000 in
theorem does1 (nm : ByteArray) (n0 : (nm.toList == ([108, 101, 110] : List UInt8)) = false) (n1 : (nm.toList == ([105, 110, 100, 101, 120] : List UInt8)) = true) (xs : List V) (A : Option Addr) (c : Nat) (w : World) (hA : Args w A xs) (h2 : 2 ≤ xs.length) :
    Calls Tryz.prog 37 #[.string nm, .slice A xs.length c] w fun e w' => Done w w' xs e (doesR 1 xs) := by
  have hu27 := Tryz.underlying27
  obtain ⟨ad, E4, e4, E5, e5, rfl, hAt', hl4, hk4, hl5, hk5⟩ := At.of_elem hA.row 0 (by omega) (by omega)
  have hAt : At w ad (rd_T27 xs 0) E4 e4 E5 e5 := hAt'
  have HX := Lib.hid (hA.may _ (rd_mem xs 0 (by omega) (by omega)))
  have q1 : ((0 : Int) < (xs.length : Int)) = True := eq_true (by omega)
  have q2 : (0 < xs.length) = True := eq_true (by omega)
  have RX := Lib.hid (⟨hk4, hl4, hk5, hl5⟩ : Rows4 w (rd_T27 xs 0) E4 e4 E5 e5)
  obtain ⟨ad2, F4, f4, F5, f5, had2, hBt', hm4, hj4, hm5, hj5⟩ := At.of_elem hA.row 1 (by omega) (by omega)
  obtain rfl : ad = ad2 := Option.some.inj had2
  have hBt : At w ⟨ad.block, ad.off + 6, none⟩ (rd_T27 xs 1) F4 f4 F5 f5 := hBt'
  have HY := Lib.hid (hA.may _ (rd_mem xs 1 (by omega) (by omega)))
  have r1 : ((1 : Int) < (xs.length : Int)) = True := eq_true (by omega)
  have r2 : (1 < xs.length) = True := eq_true (by omega)
  have RY := Lib.hid (⟨hj4, hm4, hj5, hm5⟩ : Rows4 w (rd_T27 xs 1) F4 f4 F5 f5)
  have A2 := Lib.hid (blk_new w zeros)
  have A3 := Lib.hid (below_alloc (Below.refl _ w) zeros)
  have CL := Lib.hid (fun W (hb : Below w.heap.size w W) => index_calls ad ⟨ad.block, ad.off + 6, none⟩ (rd_T27 xs 0) (rd_T27 xs 1) E4 e4 E5 e5 F4 f4 F5 f5 w W hb (hAt.below hb) (hBt.below hb) RX.out (by have h5 := (okG_of_may 8 _ 1024 HX.out.1); have := (fit_of_ok 8 _ h5).2.1; omega))
  have HF : ∀ y, (y = z27 ∨ y ∈ (rd_T27 xs 0).f4) → ∃ d, fitD d y := fun y hy => by
    rcases hy with rfl | hy
    · exact fit_nil _ rfl rfl
    · exact ⟨7, (fit_of_ok 8 _ (okG_of_may 8 _ 1024 HX.out.1)).2.2 y hy⟩
  have HFH := Lib.hid HF
  show Calls _ _ _ _ fun e w' => Done w w' xs e (indexR (rd_T27 xs 0) (rd_T27 xs 1))
  generalize indexR (rd_T27 xs 0) (rd_T27 xs 1) = R at *
  clear hA h2 HF
  clear hAt hAt' hl4 hk4 hl5 hk5
  clear hBt hBt' hm4 hj4 hm5 hj5 had2
  go_enter Tryz.func37, Tryz.ntmps37
  go_upto_region 1 with (fail)
  generalize hw4 : w.alloc zeros = w4 at *
  clear hw4
  have D2 := Lib.hid (blk_drew A2.out)
  have D3 := Lib.hid (below_drew A3.out)
  go_wp2
  go_region_with (first | (go_at_call 62; refine (CL.out _ D3.out).mono ?_; rintro e w6 ⟨B4, d4, B5, d5, rfl, hr6, hm6, hb6⟩; have BZ6 := Lib.hid (blk_below D2.out hb6); have HB6 := Lib.hid (below_step D3.out hb6); have RR := Lib.hid hr6; have FF := Lib.hid (HFH.out _ hm6); have y0 := (blk_cell BZ6.out 0).trans rfl; have y1 := (blk_cell BZ6.out 1).trans rfl; have y2 := (blk_cell BZ6.out 2).trans rfl; have y3 := (blk_cell BZ6.out 3).trans rfl; have y4 := (blk_cell BZ6.out 4).trans rfl; have y5 := (blk_cell BZ6.out 5).trans rfl; have z0 := blk_frozen BZ6.out 0; have z1 := blk_frozen BZ6.out 1; have z2 := blk_frozen BZ6.out 2; have z3 := blk_frozen BZ6.out 3; have z4 := blk_frozen BZ6.out 4; have z5 := blk_frozen BZ6.out 5; clear hb6 hr6 hm6))
  all_goals
    (try go_wp2)
    refine bodyPost_ret (results_cell_row_tmp rfl _ _ w.heap.size 27 _ (0, 0) _ rfl (six_put BZ6.out _ _ _ _ _ _) hu27 rfl (by exact size27)) rfl ?_
    exact ⟨B4, d4, B5, d5, rfl, RR.out.below (six_below HB6.out (Nat.le_refl _) _ _ _ _ _ _), FF.out, six_below HB6.out (Nat.le_refl _) _ _ _ _ _ _⟩
set_option maxHeartbeats 8000000 in
set_option maxRecDepth 100000 in
theorem does2 (nm : ByteArray) (n0 : (nm.toList == ([108, 101, 110] : List UInt8)) = false) (n1 : (nm.toList == ([105, 110, 100, 101, 120] : List UInt8)) = false) (n2 : (nm.toList == ([101, 113] : List UInt8)) = true) (xs : List V) (A : Option Addr) (c : Nat) (w : World) (hA : Args w A xs) (h2 : 2 ≤ xs.length) :
    Calls Tryz.prog 37 #[.string nm, .slice A xs.length c] w fun e w' => Done w w' xs e (doesR 2 xs) := by
  have hu27 := Tryz.underlying27
  obtain ⟨ad, E4, e4, E5, e5, rfl, hAt', hl4, hk4, hl5, hk5⟩ := At.of_elem hA.row 0 (by omega) (by omega)
  have hAt : At w ad (rd_T27 xs 0) E4 e4 E5 e5 := hAt'
  have HX := Lib.hid (hA.may _ (rd_mem xs 0 (by omega) (by omega)))
  have q1 : ((0 : Int) < (xs.length : Int)) = True := eq_true (by omega)
  have q2 : (0 < xs.length) = True := eq_true (by omega)
  have RX := Lib.hid (⟨hk4, hl4, hk5, hl5⟩ : Rows4 w (rd_T27 xs 0) E4 e4 E5 e5)
  obtain ⟨ad2, F4, f4, F5, f5, had2, hBt', hm4, hj4, hm5, hj5⟩ := At.of_elem hA.row 1 (by omega) (by omega)
  obtain rfl : ad = ad2 := Option.some.inj had2
  have hBt : At w ⟨ad.block, ad.off + 6, none⟩ (rd_T27 xs 1) F4 f4 F5 f5 := hBt'
  have HY := Lib.hid (hA.may _ (rd_mem xs 1 (by omega) (by omega)))
  have r1 : ((1 : Int) < (xs.length : Int)) = True := eq_true (by omega)
  have r2 : (1 < xs.length) = True := eq_true (by omega)
  have RY := Lib.hid (⟨hj4, hm4, hj5, hm5⟩ : Rows4 w (rd_T27 xs 1) F4 f4 F5 f5)
  have A2 := Lib.hid (blk_new w zeros)
  have A3 := Lib.hid (below_alloc (Below.refl _ w) zeros)
  have CL := Lib.hid (fun W (hb : Below w.heap.size w W) => Same_calls (rd_T27 xs 0) (rd_T27 xs 1) E4 e4 E5 e5 F4 f4 F5 f5 W (RX.out.below hb) (RY.out.below hb) HX.out.2 HY.out.2)
  show Calls _ _ _ _ fun e w' => Done w w' xs e (boolV (mayB (rd_T27 xs 0) && mayB (rd_T27 xs 1) && sameD 8 (rd_T27 xs 0) (rd_T27 xs 1)), 0)
  generalize (mayB (rd_T27 xs 0) && mayB (rd_T27 xs 1) && sameD 8 (rd_T27 xs 0) (rd_T27 xs 1)) = tb at *
  have CB := Lib.hid (fun W => Bool_calls tb W)
  obtain ⟨a0, a1, a2, a3, a4, a5⟩ := hAt.below (below_drew (below_alloc (Below.refl _ w) zeros))
  obtain ⟨b0, b1, b2, b3, b4, b5⟩ := hBt.below (below_drew (below_alloc (Below.refl _ w) zeros))
  replace b1 : (w.alloc zeros).drew.cell? ⟨ad.block, ad.off + 7, none⟩ = some (.int .i64 (rd_T27 xs 1).f1) := b1
  replace b2 : (w.alloc zeros).drew.cell? ⟨ad.block, ad.off + 8, none⟩ = some (.int .u64 (rd_T27 xs 1).f2) := b2
  replace b3 : (w.alloc zeros).drew.cell? ⟨ad.block, ad.off + 9, none⟩ = some (.string (rd_T27 xs 1).f3) := b3
  replace b4 : (w.alloc zeros).drew.cell? ⟨ad.block, ad.off + 10, none⟩ = some (.slice F4 (rd_T27 xs 1).f4.length f4) := b4
  replace b5 : (w.alloc zeros).drew.cell? ⟨ad.block, ad.off + 11, none⟩ = some (.slice F5 (rd_T27 xs 1).f5.length f5) := b5
  clear hA h2
  clear hAt hAt' hl4 hk4 hl5 hk5
  clear hBt hBt' hm4 hj4 hm5 hj5 had2
  go_enter Tryz.func37, Tryz.ntmps37
  go_upto_region 1 with (fail)
  generalize hw4 : w.alloc zeros = w4 at *
  clear hw4
  have D2 := Lib.hid (blk_drew A2.out)
  have D3 := Lib.hid (below_drew A3.out)
  go_wp2
  go_region_with (first | (go_at_call 64; refine (CL.out _ D3.out).mono ?_; rintro e w5 ⟨rfl, hb5⟩; have BZ5 := Lib.hid (blk_below D2.out hb5); have HB5 := Lib.hid (below_step D3.out hb5); clear hb5) | (go_at_call 63; refine (CB.out _).mono ?_; rintro e w6 ⟨rfl, hb6⟩; have BZ6 := Lib.hid (blk_below BZ5.out hb6); have HB6 := Lib.hid (below_step HB5.out hb6); have y0 := (blk_cell BZ6.out 0).trans rfl; have y1 := (blk_cell BZ6.out 1).trans rfl; have y2 := (blk_cell BZ6.out 2).trans rfl; have y3 := (blk_cell BZ6.out 3).trans rfl; have y4 := (blk_cell BZ6.out 4).trans rfl; have y5 := (blk_cell BZ6.out 5).trans rfl; have z0 := blk_frozen BZ6.out 0; have z1 := blk_frozen BZ6.out 1; have z2 := blk_frozen BZ6.out 2; have z3 := blk_frozen BZ6.out 3; have z4 := blk_frozen BZ6.out 4; have z5 := blk_frozen BZ6.out 5; clear hb6))
  all_goals
    (try go_wp2)
    refine bodyPost_ret (results_cell_row_tmp rfl _ _ w.heap.size 27 _ (0, 0) _ rfl (six_put BZ6.out _ _ _ _ _ _) hu27 rfl (by exact size27)) rfl ?_
    exact ⟨none, 0, none, 0, rfl, rows_nil _ _ rfl rfl, fit_nil _ rfl rfl, six_below HB6.out (Nat.le_refl _) _ _ _ _ _ _⟩
set_option maxHeartbeats 8000000 in
set_option maxRecDepth 100000 in
theorem does3 (nm : ByteArray) (n0 : (nm.toList == ([108, 101, 110] : List UInt8)) = false) (n1 : (nm.toList == ([105, 110, 100, 101, 120] : List UInt8)) = false) (n2 : (nm.toList == ([101, 113] : List UInt8)) = false) (n3 : (nm.toList == ([108, 116] : List UInt8)) = true) (xs : List V) (A : Option Addr) (c : Nat) (w : World) (hA : Args w A xs) (h2 : 2 ≤ xs.length) :
    Calls Tryz.prog 37 #[.string nm, .slice A xs.length c] w fun e w' => Done w w' xs e (doesR 3 xs) := by
  have hu27 := Tryz.underlying27
  obtain ⟨ad, E4, e4, E5, e5, rfl, hAt', hl4, hk4, hl5, hk5⟩ := At.of_elem hA.row 0 (by omega) (by omega)
  have hAt : At w ad (rd_T27 xs 0) E4 e4 E5 e5 := hAt'
  have HX := Lib.hid (hA.may _ (rd_mem xs 0 (by omega) (by omega)))
  have q1 : ((0 : Int) < (xs.length : Int)) = True := eq_true (by omega)
  have q2 : (0 < xs.length) = True := eq_true (by omega)
  have RX := Lib.hid (⟨hk4, hl4, hk5, hl5⟩ : Rows4 w (rd_T27 xs 0) E4 e4 E5 e5)
  obtain ⟨ad2, F4, f4, F5, f5, had2, hBt', hm4, hj4, hm5, hj5⟩ := At.of_elem hA.row 1 (by omega) (by omega)
  obtain rfl : ad = ad2 := Option.some.inj had2
  have hBt : At w ⟨ad.block, ad.off + 6, none⟩ (rd_T27 xs 1) F4 f4 F5 f5 := hBt'
  have HY := Lib.hid (hA.may _ (rd_mem xs 1 (by omega) (by omega)))
  have r1 : ((1 : Int) < (xs.length : Int)) = True := eq_true (by omega)
  have r2 : (1 < xs.length) = True := eq_true (by omega)
  have RY := Lib.hid (⟨hj4, hm4, hj5, hm5⟩ : Rows4 w (rd_T27 xs 1) F4 f4 F5 f5)
  have A2 := Lib.hid (blk_new w zeros)
  have A3 := Lib.hid (below_alloc (Below.refl _ w) zeros)
  have CL := Lib.hid (fun W (hb : Below w.heap.size w W) => Less_calls (rd_T27 xs 0) (rd_T27 xs 1) E4 e4 E5 e5 F4 f4 F5 f5 W (RX.out.below hb) (RY.out.below hb))
  show Calls _ _ _ _ fun e w' => Done w w' xs e (if lessE (rd_T27 xs 0) (rd_T27 xs 1) = 0 then (boolV (lessB (rd_T27 xs 0) (rd_T27 xs 1)), 0) else (z27, 1802))
  generalize lessB (rd_T27 xs 0) (rd_T27 xs 1) = tb at *
  generalize lessE (rd_T27 xs 0) (rd_T27 xs 1) = te at *
  have CB := Lib.hid (fun W => Bool_calls tb W)
  obtain ⟨a0, a1, a2, a3, a4, a5⟩ := hAt.below (below_drew (below_alloc (Below.refl _ w) zeros))
  obtain ⟨b0, b1, b2, b3, b4, b5⟩ := hBt.below (below_drew (below_alloc (Below.refl _ w) zeros))
  replace b1 : (w.alloc zeros).drew.cell? ⟨ad.block, ad.off + 7, none⟩ = some (.int .i64 (rd_T27 xs 1).f1) := b1
  replace b2 : (w.alloc zeros).drew.cell? ⟨ad.block, ad.off + 8, none⟩ = some (.int .u64 (rd_T27 xs 1).f2) := b2
  replace b3 : (w.alloc zeros).drew.cell? ⟨ad.block, ad.off + 9, none⟩ = some (.string (rd_T27 xs 1).f3) := b3
  replace b4 : (w.alloc zeros).drew.cell? ⟨ad.block, ad.off + 10, none⟩ = some (.slice F4 (rd_T27 xs 1).f4.length f4) := b4
  replace b5 : (w.alloc zeros).drew.cell? ⟨ad.block, ad.off + 11, none⟩ = some (.slice F5 (rd_T27 xs 1).f5.length f5) := b5
  clear hA h2
  clear hAt hAt' hl4 hk4 hl5 hk5
  clear hBt hBt' hm4 hj4 hm5 hj5 had2
  by_cases hte : te = 0
  · rw [if_pos hte]
    subst hte
    go_enter Tryz.func37, Tryz.ntmps37
    go_upto_region 1 with (fail)
    generalize hw4 : w.alloc zeros = w4 at *
    clear hw4
    have D2 := Lib.hid (blk_drew A2.out)
    have D3 := Lib.hid (below_drew A3.out)
    go_wp2
    go_region_with (first | (go_at_call 65; refine (CL.out _ D3.out).mono ?_; rintro e w5 ⟨rfl, hb5⟩; have BZ5 := Lib.hid (blk_below D2.out hb5); have HB5 := Lib.hid (below_step D3.out hb5); clear hb5))
    all_goals
      go_wp2_with (first | (go_at_call 63; refine (CB.out _).mono ?_; rintro e w6 ⟨rfl, hb6⟩; have BZ6 := Lib.hid (blk_below BZ5.out hb6); have HB6 := Lib.hid (below_step HB5.out hb6); clear hb6) | ((with_reducible refine gate_store (t := 27) (p := 4) rfl ?_); refine row_event (by rfl) (by rfl) (by rfl) (by rfl) (by rfl) BZ6.out (by exact size27) (by rfl) (by first | rfl | simp [Value.oneCell']) ?_; intro w8 hz8 ho8 hb8; have Z8 := Lib.hid hz8; have HB8 := Lib.hid (hb8 (Nat.le_refl _) HB6.out); clear hb8 ho8 hz8))
      refine bodyPost_ret (results_cell_row_tmp rfl _ _ w.heap.size 27 _ (0, 0) _ rfl Z8.out hu27 rfl (by exact size27)) rfl ?_
      exact ⟨none, 0, none, 0, rfl, rows_nil _ _ rfl rfl, fit_nil _ rfl rfl, HB8.out⟩
  · rw [if_neg hte]
    have hne : (te != 0) = true := bne_iff_ne.2 hte
    go_enter Tryz.func37, Tryz.ntmps37
    go_upto_region 1 with (fail)
    generalize hw4 : w.alloc zeros = w4 at *
    clear hw4
    have D2 := Lib.hid (blk_drew A2.out)
    have D3 := Lib.hid (below_drew A3.out)
    go_wp2
    go_region_with (first | (go_at_call 65; refine (CL.out _ D3.out).mono ?_; rintro e w5 ⟨rfl, hb5⟩; have BZ5 := Lib.hid (blk_below D2.out hb5); have HB5 := Lib.hid (below_step D3.out hb5); clear hb5))
    all_goals
      go_wp2_with (first | ((with_reducible refine gate_store (t := 27) (p := 4) rfl ?_); refine row_event (by rfl) (by rfl) (by rfl) (by rfl) (by rfl) BZ5.out (by exact size27) (by rfl) (by first | rfl | simp [Value.oneCell']) ?_; intro w8 hz8 ho8 hb8; have Z8 := Lib.hid hz8; have HB8 := Lib.hid (hb8 (Nat.le_refl _) HB5.out); clear hb8 ho8 hz8))
      refine bodyPost_ret (results_cell_row_tmp rfl _ _ w.heap.size 27 _ (0, 0) _ rfl Z8.out hu27 rfl (by exact size27)) rfl ?_
      exact ⟨none, 0, none, 0, rfl, rows_nil _ _ rfl rfl, fit_nil _ rfl rfl, HB8.out⟩
set_option maxHeartbeats 8000000 in
set_option maxRecDepth 100000 in
theorem does4 (nm : ByteArray) (n0 : (nm.toList == ([108, 101, 110] : List UInt8)) = false) (n1 : (nm.toList == ([105, 110, 100, 101, 120] : List UInt8)) = false) (n2 : (nm.toList == ([101, 113] : List UInt8)) = false) (n3 : (nm.toList == ([108, 116] : List UInt8)) = false) (n4 : (nm.toList == ([110, 111, 116] : List UInt8)) = true) (xs : List V) (A : Option Addr) (c : Nat) (w : World) (hA : Args w A xs) (h1 : 1 ≤ xs.length) :
    Calls Tryz.prog 37 #[.string nm, .slice A xs.length c] w fun e w' => Done w w' xs e (doesR 4 xs) := by
  have hu27 := Tryz.underlying27
  obtain ⟨ad, E4, e4, E5, e5, rfl, hAt', hl4, hk4, hl5, hk5⟩ := At.of_elem hA.row 0 (by omega) (by omega)
  have hAt : At w ad (rd_T27 xs 0) E4 e4 E5 e5 := hAt'
  have HX := Lib.hid (hA.may _ (rd_mem xs 0 (by omega) (by omega)))
  have q1 : ((0 : Int) < (xs.length : Int)) = True := eq_true (by omega)
  have q2 : (0 < xs.length) = True := eq_true (by omega)
  have RX := Lib.hid (⟨hk4, hl4, hk5, hl5⟩ : Rows4 w (rd_T27 xs 0) E4 e4 E5 e5)
  have A2 := Lib.hid (blk_new w zeros)
  have A3 := Lib.hid (below_alloc (Below.refl _ w) zeros)
  have hAt2 := hAt.below (below_alloc (Below.refl _ w) zeros)
  have CL := Lib.hid (Truth_calls ad (rd_T27 xs 0) E4 e4 E5 e5 _ hAt2 (rng_top HX.out.2).1 (rng_top HX.out.2).2)
  show Calls _ _ _ _ fun e w' => Done w w' xs e (boolV (!truthB (rd_T27 xs 0)), 0)
  generalize truthB (rd_T27 xs 0) = tb at *
  have CB := Lib.hid (fun W => Bool_calls (!tb) W)
  clear hAt2 hA h1
  clear hAt hAt' hl4 hk4 hl5 hk5
  go_enter Tryz.func37, Tryz.ntmps37
  go_upto_region 1 with (fail)
  generalize hw4 : w.alloc zeros = w4 at *
  clear hw4
  go_wp2_with (first | (go_at_call 66; refine CL.out.mono ?_; rintro e w5 ⟨rfl, rfl⟩) | (go_at_call 63; refine (CB.out _).mono ?_; rintro e w6 ⟨rfl, hb6⟩; have BZ6 := Lib.hid (blk_below A2.out hb6); have HB6 := Lib.hid (below_step A3.out hb6); clear hb6) | ((with_reducible refine gate_store (t := 27) (p := 4) rfl ?_); refine row_event (by rfl) (by rfl) (by rfl) (by rfl) (by rfl) BZ6.out (by exact size27) (by rfl) (by first | rfl | simp [Value.oneCell']) ?_; intro w8 hz8 ho8 hb8; have Z8 := Lib.hid hz8; have HB8 := Lib.hid (hb8 (Nat.le_refl _) HB6.out); clear hb8 ho8 hz8))
  refine bodyPost_ret (results_cell_row_tmp rfl _ _ w.heap.size 27 _ (0, 0) _ rfl Z8.out hu27 rfl (by exact size27)) rfl ?_
  exact ⟨none, 0, none, 0, rfl, rows_nil _ _ rfl rfl, fit_nil _ rfl rfl, HB8.out⟩
set_option maxHeartbeats 8000000 in
set_option maxRecDepth 100000 in
theorem does5 (nm : ByteArray) (n0 : (nm.toList == ([108, 101, 110] : List UInt8)) = false) (n1 : (nm.toList == ([105, 110, 100, 101, 120] : List UInt8)) = false) (n2 : (nm.toList == ([101, 113] : List UInt8)) = false) (n3 : (nm.toList == ([108, 116] : List UInt8)) = false) (n4 : (nm.toList == ([110, 111, 116] : List UInt8)) = false) (n5 : (nm.toList == ([97, 110, 100] : List UInt8)) = true) (xs : List V) (A : Option Addr) (c : Nat) (w : World) (hA : Args w A xs) (h1 : 1 ≤ xs.length) :
    Calls Tryz.prog 37 #[.string nm, .slice A xs.length c] w fun e w' => Done w w' xs e (doesR 5 xs) := by
  have hu27 := Tryz.underlying27
  have A2 := Lib.hid (blk_new w zeros)
  have A3 := Lib.hid (below_alloc (Below.refl _ w) zeros)
  have CP := Lib.hid (fun W (hb : Below w.heap.size w W) => pick_calls xs false A c w W hb (by omega) hA.few (fun z hz => rng_top (hA.may z hz).2) hA.row)
  have HF := Lib.hid (fun (h : pickR xs false ∈ xs) => fit_may _ (hA.may _ h).1)
  show Calls _ _ _ _ fun e w' => Done w w' xs e (pickR xs false, 0)
  generalize pickR xs false = R at *
  clear hA h1
  go_enter Tryz.func37, Tryz.ntmps37
  go_upto_region 1 with (fail)
  generalize hw4 : w.alloc zeros = w4 at *
  clear hw4
  go_wp2_with (first | (go_at_call 67; refine (CP.out _ A3.out).mono ?_; rintro e w6 ⟨B4, d4, B5, d5, rfl, hr6, hm6, hb6⟩; have BZ6 := Lib.hid (blk_below A2.out hb6); have HB6 := Lib.hid (below_step A3.out hb6); have RR := Lib.hid hr6; have FF := Lib.hid (HF.out hm6); clear hb6 hr6 hm6) | ((with_reducible refine gate_store (t := 27) (p := 4) rfl ?_); refine row_event (by rfl) (by rfl) (by rfl) (by rfl) (by rfl) BZ6.out (by exact size27) (by rfl) (by first | rfl | simp [Value.oneCell']) ?_; intro w8 hz8 ho8 hb8; have Z8 := Lib.hid hz8; have HB8 := Lib.hid (hb8 (Nat.le_refl _) HB6.out); clear hb8 ho8 hz8))
  refine bodyPost_ret (results_cell_row_tmp rfl _ _ w.heap.size 27 _ (0, 0) _ rfl Z8.out hu27 rfl (by exact size27)) rfl ?_
  exact ⟨B4, d4, B5, d5, rfl, RR.out.below HB8.out, FF.out, HB8.out⟩
set_option maxHeartbeats 8000000 in
set_option maxRecDepth 100000 in
theorem does6 (nm : ByteArray) (n0 : (nm.toList == ([108, 101, 110] : List UInt8)) = false) (n1 : (nm.toList == ([105, 110, 100, 101, 120] : List UInt8)) = false) (n2 : (nm.toList == ([101, 113] : List UInt8)) = false) (n3 : (nm.toList == ([108, 116] : List UInt8)) = false) (n4 : (nm.toList == ([110, 111, 116] : List UInt8)) = false) (n5 : (nm.toList == ([97, 110, 100] : List UInt8)) = false) (n6 : (nm.toList == ([111, 114] : List UInt8)) = true) (xs : List V) (A : Option Addr) (c : Nat) (w : World) (hA : Args w A xs) (h1 : 1 ≤ xs.length) :
    Calls Tryz.prog 37 #[.string nm, .slice A xs.length c] w fun e w' => Done w w' xs e (doesR 6 xs) := by
  have hu27 := Tryz.underlying27
  have A2 := Lib.hid (blk_new w zeros)
  have A3 := Lib.hid (below_alloc (Below.refl _ w) zeros)
  have CP := Lib.hid (fun W (hb : Below w.heap.size w W) => pick_calls xs true A c w W hb (by omega) hA.few (fun z hz => rng_top (hA.may z hz).2) hA.row)
  have HF := Lib.hid (fun (h : pickR xs true ∈ xs) => fit_may _ (hA.may _ h).1)
  show Calls _ _ _ _ fun e w' => Done w w' xs e (pickR xs true, 0)
  generalize pickR xs true = R at *
  clear hA h1
  go_enter Tryz.func37, Tryz.ntmps37
  go_upto_region 1 with (fail)
  generalize hw4 : w.alloc zeros = w4 at *
  clear hw4
  go_wp2_with (first | (go_at_call 67; refine (CP.out _ A3.out).mono ?_; rintro e w6 ⟨B4, d4, B5, d5, rfl, hr6, hm6, hb6⟩; have BZ6 := Lib.hid (blk_below A2.out hb6); have HB6 := Lib.hid (below_step A3.out hb6); have RR := Lib.hid hr6; have FF := Lib.hid (HF.out hm6); clear hb6 hr6 hm6) | ((with_reducible refine gate_store (t := 27) (p := 4) rfl ?_); refine row_event (by rfl) (by rfl) (by rfl) (by rfl) (by rfl) BZ6.out (by exact size27) (by rfl) (by first | rfl | simp [Value.oneCell']) ?_; intro w8 hz8 ho8 hb8; have Z8 := Lib.hid hz8; have HB8 := Lib.hid (hb8 (Nat.le_refl _) HB6.out); clear hb8 ho8 hz8))
  refine bodyPost_ret (results_cell_row_tmp rfl _ _ w.heap.size 27 _ (0, 0) _ rfl Z8.out hu27 rfl (by exact size27)) rfl ?_
  exact ⟨B4, d4, B5, d5, rfl, RR.out.below HB8.out, FF.out, HB8.out⟩
set_option maxHeartbeats 8000000 in
set_option maxRecDepth 100000 in
theorem does7 (nm : ByteArray) (n0 : (nm.toList == ([108, 101, 110] : List UInt8)) = false) (n1 : (nm.toList == ([105, 110, 100, 101, 120] : List UInt8)) = false) (n2 : (nm.toList == ([101, 113] : List UInt8)) = false) (n3 : (nm.toList == ([108, 116] : List UInt8)) = false) (n4 : (nm.toList == ([110, 111, 116] : List UInt8)) = false) (n5 : (nm.toList == ([97, 110, 100] : List UInt8)) = false) (n6 : (nm.toList == ([111, 114] : List UInt8)) = false) (xs : List V) (A : Option Addr) (c : Nat) (w : World) (hA : Args w A xs) :
    Calls Tryz.prog 37 #[.string nm, .slice A xs.length c] w fun e w' => Done w w' xs e (doesR 7 xs) := by
  have hu27 := Tryz.underlying27
  have A2 := Lib.hid (blk_new w zeros)
  have A3 := Lib.hid (below_alloc (Below.refl _ w) zeros)
  have CP := Lib.hid (fun W (hb : Below w.heap.size w W) => cat_calls xs A c W (hA.tabs.below hb) hA.few (fun z hz => ⟨(hA.may z hz).1, rng_top (hA.may z hz).2⟩) (Kd.C_below hA.row hb))
  show Calls _ _ _ _ fun e w' => Done w w' xs e (catR xs)
  have hn := cat_nil xs [] false
  change (catR xs).1.f4 = [] ∧ (catR xs).1.f5 = [] at hn
  generalize catR xs = R at *
  have HN := Lib.hid hn
  clear hA hn
  go_enter Tryz.func37, Tryz.ntmps37
  go_upto_region 1 with (fail)
  generalize hw4 : w.alloc zeros = w4 at *
  clear hw4
  go_wp2_with (first | (go_at_call 68; refine (CP.out _ A3.out).mono ?_; rintro e w6 ⟨rfl, hb6⟩; have BZ6 := Lib.hid (blk_below A2.out hb6); have HB6 := Lib.hid (below_step A3.out hb6); clear hb6) | ((with_reducible refine gate_store (t := 27) (p := 4) rfl ?_); refine row_event (by rfl) (by rfl) (by rfl) (by rfl) (by rfl) BZ6.out (by exact size27) (by rfl) (by first | rfl | simp [Value.oneCell']) ?_; intro w8 hz8 ho8 hb8; have Z8 := Lib.hid hz8; have HB8 := Lib.hid (hb8 (Nat.le_refl _) HB6.out); clear hb8 ho8 hz8))
  refine bodyPost_ret (results_cell_row_tmp rfl _ _ w.heap.size 27 _ (0, 0) _ rfl Z8.out hu27 rfl (by exact size27)) rfl ?_
  exact ⟨none, 0, none, 0, rfl, rows_nil _ _ HN.out.1 HN.out.2, fit_nil _ HN.out.1 HN.out.2, HB8.out⟩
end Go.Proofs.YtdghnfmhcnlppaaGreatDoor.Fns
namespace Go.Proofs.YtdghnfmhcnlppaaGreatDoor.Fns
open Go.RowKit Go.Proofs.YtdghnfmhcnlppaaGreatDoor.Q Go.Proofs.YtdghnfmhcnlppaaGreatDoor.Real Go.Proofs.YtdghnfmhcnlppaaGreatDoor.RealPure Go.Proofs.YtdghnfmhcnlppaaGreatDoor.Values Go.Proofs.YtdghnfmhcnlppaaGreatDoorW.PrintWords Go.Proofs.YtdghnfmhcnlppaaGreatDoorW.PrintLast Go.Proofs.YtdghnfmhcnlppaaGreatDoorW.PrintMore
set_option linter.unusedSimpArgs false
set_option linter.unusedVariables false

/-- How many arguments a function wants: at least, at most (-1: any). -/
def knownR : Nat → Int × Int × Bool
  | 0 => (1, 1, true)
  | 1 => (2, 2, true)
  | 2 => (2, 2, true)
  | 3 => (2, 2, true)
  | 4 => (1, 1, true)
  | 5 => (1, -1, true)
  | 6 => (1, -1, true)
  | 7 => (0, -1, true)
  | _ => (0, 0, false)
theorem known_f (nm : ByteArray) : M.fns_known.f 9 nm = some (knownR (fnNo nm)) := by
  simp only [M.fns_known.f, M.fns_known.j0, M.fns_known.j1, M.fns_known.j2, fnNo]
  generalize nm.toList = l
  by_cases h0 : l = ([108, 101, 110] : List UInt8)
  · subst h0; rfl
  by_cases h1 : l = ([105, 110, 100, 101, 120] : List UInt8)
  · subst h1; rfl
  by_cases h2 : l = ([101, 113] : List UInt8)
  · subst h2; rfl
  by_cases h3 : l = ([108, 116] : List UInt8)
  · subst h3; rfl
  by_cases h4 : l = ([110, 111, 116] : List UInt8)
  · subst h4; rfl
  by_cases h5 : l = ([97, 110, 100] : List UInt8)
  · subst h5; rfl
  by_cases h6 : l = ([111, 114] : List UInt8)
  · subst h6; rfl
  by_cases h7 : l = ([99, 97, 116] : List UInt8)
  · subst h7; rfl
  simp [h0, h1, h2, h3, h4, h5, h6, h7, knownR]
theorem known_calls (nm : ByteArray) (w : World) : Calls Tryz.prog 33 #[.string nm] w fun e w' => e = .returned (.tuple #[.int .i64 (knownR (fnNo nm)).1, .int .i64 (knownR (fnNo nm)).2.1, .bool (knownR (fnNo nm)).2.2]) ∧ Drawn0 w w' :=
  M.fns_known.calls 9 nm _ _ _ w (known_f nm)

def countBad (r : Int × Int × Bool) (n : Nat) : Bool := decide ((n : Int) < r.1) || (decide (0 ≤ r.2.1) && decide (r.2.1 < (n : Int)))
/-- What Call answers. -/
def callR (nm : ByteArray) (xs : List V) : V × Int := if (knownR (fnNo nm)).2.2 = false then (z27, 1800) else if countBad (knownR (fnNo nm)) xs.length = true then (z27, 1801) else if (xs.any fun v => !mayB v) = true then (z27, 1802) else doesR (fnNo nm) xs
/-- What a call rests on. -/
structure ArgsC (w : World) (A : Option Addr) (xs : List V) : Prop where
  tabs : Tabs w
  few : xs.length < 2199023255552
  row : Kd.C k27 w A xs.length xs
  rng : ∀ z ∈ xs, rngD 8 z
def Got (w w' : World) (e : Ending) (R : V × Int) : Prop := ∃ v4 v5, e = .returned (.tuple #[.agg #[.int .i64 R.1.f0, .int .i64 R.1.f1, .int .u64 R.1.f2, .string R.1.f3, v4, v5], .int .i64 R.2]) ∧
    Kd.R k27 27 w' w.heap.size (fun k_ => some k_ ≠ v5.ownBlock) v4 R.1.f4 ∧ Kd.R Kd.string 9 w' w.heap.size (fun _ => True) v5 R.1.f5 ∧ Below w.heap.size w w'
theorem R_other {α : Type} {d : Kd α} {e : Nat} {w w1 : World} {base base' : Nat} {ok : Nat → Prop} {v : Value} {xs : List α} {g : Nat} (h : d.R e w base ok v xs) (hg : g < base) (hm : ∀ k, k ≠ g → w1.heap[k]? = w.heap[k]?) (hb : base' ≤ base) : d.R e w1 base' ok v xs :=
  Kd.R_mono (Kd.R_lower (Kd.R_move (Kd.R_bound h) (fun k hk => hm k (by have := hk.2.1; omega))) hb) (fun k hk => hk.1)

set_option maxHeartbeats 8000000 in
set_option maxRecDepth 100000 in
theorem Call_walk (nm : ByteArray) (xs : List V) (A : Option Addr) (c : Nat) (w : World) (r1 r2 : Int) (r3 c1 c2 c3 an : Bool) (D R : V × Int)
    (HK : ∀ W, Calls Tryz.prog 33 #[.string nm] W fun e w' => e = .returned (.tuple #[.int .i64 r1, .int .i64 r2, .bool r3]) ∧ Drawn0 W w')
    (h1 : decide ((xs.length : Int) < r1) = c1) (h2 : decide (0 ≤ r2) = c2) (h3 : decide (r2 < (xs.length : Int)) = c3)
    (HC : ∀ W, Below w.heap.size w W → Calls Tryz.prog 36 #[.slice A xs.length c, .func (.func 34) #[] #[]] W fun e w' => e = .returned (.bool an) ∧ Below W.heap.size W w')
    (HD : r3 = true → (c1 || (c2 && c3)) = false → an = false → ∀ W, Below w.heap.size w W → Calls Tryz.prog 37 #[.string nm, .slice A xs.length c] W fun e w' => Done W w' xs e D)
    (hR : R = (if r3 = false then (z27, 1800) else if (c1 || (c2 && c3)) = true then (z27, 1801) else if an = true then (z27, 1802) else D)) :
    Calls Tryz.prog 17 #[.string nm, .slice A xs.length c] w fun e w' => Got w w' e R := by
  have hu27 := Tryz.underlying27
  have A2 := Lib.hid (blk_new w zeros)
  have A3 := Lib.hid (below_alloc (Below.refl _ w) zeros)
  have HKH := Lib.hid HK; have HCH := Lib.hid HC
  clear HK HC
  cases r3
  · obtain rfl : R = (z27, 1800) := hR
    clear HD
    go_enter Tryz.func17, Tryz.ntmps17
    go_upto_region 1 with (fail)
    generalize hw4 : w.alloc zeros = w4 at *
    clear hw4
    go_wp2_with (first | (go_at_call 33; (with_reducible refine (HKH.out _).mono ?_); rintro e w5 ⟨rfl, ⟨m5, rfl⟩⟩; have BZ5 := Lib.hid (blk_drewN A2.out m5); have HB5 := Lib.hid (pw_below_drewN A3.out m5)) | ((with_reducible refine gate_store (t := 27) (p := 4) rfl ?_); refine row_event (by rfl) (by rfl) (by rfl) (by rfl) (by rfl) BZ5.out (by exact size27) (by rfl) (by first | rfl | simp [Value.oneCell']) ?_; intro w9 hz9 ho9 hb9; have Z9 := Lib.hid hz9; have HO9 := Lib.hid ho9; have HB9 := Lib.hid (hb9 (Nat.le_refl _) HB5.out); clear hb9 ho9 hz9))
    refine bodyPost_ret (results_cell_row_tmp rfl _ _ w.heap.size 27 _ (0, 0) _ rfl Z9.out hu27 rfl (by exact size27)) rfl ?_
    exact ⟨_, _, rfl, Kd.R_nil _ _ _ _ _, Kd.R_nil _ _ _ _ _, HB9.out⟩
  cases c1
  case true =>
    obtain rfl : R = (z27, 1801) := hR
    clear HD
    go_enter Tryz.func17, Tryz.ntmps17
    go_upto_region 1 with (fail)
    generalize hw4 : w.alloc zeros = w4 at *
    clear hw4
    go_wp2_with (first | (go_at_call 33; (with_reducible refine (HKH.out _).mono ?_); rintro e w5 ⟨rfl, ⟨m5, rfl⟩⟩; have BZ5 := Lib.hid (blk_drewN A2.out m5); have HB5 := Lib.hid (pw_below_drewN A3.out m5)) | ((with_reducible refine gate_store (t := 27) (p := 4) rfl ?_); refine row_event (by rfl) (by rfl) (by rfl) (by rfl) (by rfl) BZ5.out (by exact size27) (by rfl) (by first | rfl | simp [Value.oneCell']) ?_; intro w9 hz9 ho9 hb9; have Z9 := Lib.hid hz9; have HO9 := Lib.hid ho9; have HB9 := Lib.hid (hb9 (Nat.le_refl _) HB5.out); clear hb9 ho9 hz9))
    refine bodyPost_ret (results_cell_row_tmp rfl _ _ w.heap.size 27 _ (0, 0) _ rfl Z9.out hu27 rfl (by exact size27)) rfl ?_
    exact ⟨_, _, rfl, Kd.R_nil _ _ _ _ _, Kd.R_nil _ _ _ _ _, HB9.out⟩
  case false =>
    cases c2
    case false =>
      cases an
      case true =>
        obtain rfl : R = (z27, 1802) := hR
        clear HD
        go_enter Tryz.func17, Tryz.ntmps17
        go_upto_region 1 with (fail)
        generalize hw4 : w.alloc zeros = w4 at *
        clear hw4
        go_wp2_with (first | (go_at_call 33; (with_reducible refine (HKH.out _).mono ?_); rintro e w5 ⟨rfl, ⟨m5, rfl⟩⟩; have BZ5 := Lib.hid (blk_drewN A2.out m5); have HB5 := Lib.hid (pw_below_drewN A3.out m5)) | (go_at_call 36; refine (HCH.out _ HB5.out).mono ?_; rintro e w6 ⟨rfl, hb6⟩; have BZ6 := Lib.hid (blk_below BZ5.out hb6); have HB6 := Lib.hid (below_step HB5.out hb6); clear hb6) | ((with_reducible refine gate_store (t := 27) (p := 4) rfl ?_); refine row_event (by rfl) (by rfl) (by rfl) (by rfl) (by rfl) BZ6.out (by exact size27) (by rfl) (by first | rfl | simp [Value.oneCell']) ?_; intro w9 hz9 ho9 hb9; have Z9 := Lib.hid hz9; have HO9 := Lib.hid ho9; have HB9 := Lib.hid (hb9 (Nat.le_refl _) HB6.out); clear hb9 ho9 hz9))
        refine bodyPost_ret (results_cell_row_tmp rfl _ _ w.heap.size 27 _ (0, 0) _ rfl Z9.out hu27 rfl (by exact size27)) rfl ?_
        exact ⟨_, _, rfl, Kd.R_nil _ _ _ _ _, Kd.R_nil _ _ _ _ _, HB9.out⟩
      case false =>
        obtain rfl : R = D := hR
        have HDH := Lib.hid (HD rfl rfl rfl)
        clear HD
        obtain ⟨y, ey⟩ := R
        have CC := Lib.hid (show ∀ (dd : Nat) B4 d4 B5 d5 W, fitD dd y → Rows4 W y B4 d4 B5 d5 → Calls Tryz.prog 25 #[.agg #[.int .i64 y.f0, .int .i64 y.f1, .int .u64 y.f2, .string y.f3, .slice B4 y.f4.length d4, .slice B5 y.f5.length d5]] W fun e w' => ∃ v4 v5, e = .returned (.agg #[.int .i64 y.f0, .int .i64 y.f1, .int .u64 y.f2, .string y.f3, v4, v5]) ∧ Kd.R k27 27 w' W.heap.size (fun k_ => some k_ ≠ v5.ownBlock) v4 y.f4 ∧ Kd.R Kd.string 9 w' W.heap.size (fun _ => True) v5 y.f5 ∧ Below W.heap.size W w' from fun dd B4 d4 B5 d5 W hf hr => Copy_all dd y B4 d4 B5 d5 W hf hr)
        go_enter Tryz.func17, Tryz.ntmps17
        go_upto_region 1 with (fail)
        generalize hw4 : w.alloc zeros = w4 at *
        clear hw4
        go_wp2_with (first | (go_at_call 33; (with_reducible refine (HKH.out _).mono ?_); rintro e w5 ⟨rfl, ⟨m5, rfl⟩⟩; have BZ5 := Lib.hid (blk_drewN A2.out m5); have HB5 := Lib.hid (pw_below_drewN A3.out m5)) | (go_at_call 36; refine (HCH.out _ HB5.out).mono ?_; rintro e w6 ⟨rfl, hb6⟩; have BZ6 := Lib.hid (blk_below BZ5.out hb6); have HB6 := Lib.hid (below_step HB5.out hb6); clear hb6) | (go_at_call 37; refine (HDH.out _ HB6.out).mono ?_; rintro e w7 ⟨B4, d4, B5, d5, rfl, hr7, ⟨dd, hfit⟩, hb7⟩; have BZ7 := Lib.hid (blk_below BZ6.out hb7); have HB7 := Lib.hid (below_step HB6.out hb7); have RR := Lib.hid hr7; have FF := Lib.hid hfit; have BN := Lib.hid (blk_new w7 zeros); have NE := Lib.hid (Nat.ne_of_lt (blk_lt (blk_below BZ6.out hb7))); have LE := Lib.hid (Nat.le_of_lt (blk_lt (blk_below BZ6.out hb7))); clear hb7 hr7 hfit) | ((with_reducible refine gate_store (t := 27) (p := 10) rfl ?_); refine row_event (by rfl) (by rfl) (by rfl) (by rfl) (by rfl) BN.out (by exact size27) (by rfl) (by first | rfl | simp [Value.oneCell']) ?_; intro w8 hz8 ho8 hb8; have BZ8 := Lib.hid ((ho8 _ NE.out).trans (blk_alloc BZ7.out zeros)); have HB8 := Lib.hid (hb8 LE.out (below_alloc HB7.out zeros)); have RR8 := Lib.hid (RR.out.below (hb8 (Nat.le_refl _) (below_alloc (Below.refl _ w7) zeros))); obtain ⟨s0, s1, s2, s3, s4, s5⟩ := At.of_box hz8; clear hb8 ho8 hz8) | (go_at_call 25; (with_reducible refine (CC.out dd B4 d4 B5 d5 _ FF.out RR8.out).mono ?_); rintro e w10 ⟨v4, v5, rfl, hk4, hk5, hb10⟩; have BG := Lib.hid (blk_lt BZ8.out); have BL := Lib.hid (below_size HB8.out); have BZ10 := Lib.hid (blk_below BZ8.out hb10); have HB10 := Lib.hid (below_step HB8.out hb10); have R4 := Lib.hid hk4; have R5 := Lib.hid hk5; have OV4 := Lib.hid (R_one hk4); have OV5 := Lib.hid (R_one hk5); clear hb10 hk4 hk5) | ((with_reducible refine gate_store (t := 27) (p := 4) rfl ?_); refine row_event (by rfl) (by rfl) (by rfl) (by rfl) (by rfl) BZ10.out (by exact size27) (by rfl) (by exact all_six _ _ _ _ _ _ OV4.out OV5.out) ?_; intro w9 hz9 ho9 hb9; have Z9 := Lib.hid hz9; have HO9 := Lib.hid ho9; have HB9 := Lib.hid (hb9 (Nat.le_refl _) HB10.out); clear hb9 ho9 hz9))
        refine bodyPost_ret (results_cell_row_tmp rfl _ _ w.heap.size 27 _ (0, 0) _ rfl Z9.out hu27 rfl (by exact size27)) rfl ?_
        exact ⟨v4, v5, rfl, R_other R4.out BG.out HO9.out BL.out, R_other R5.out BG.out HO9.out BL.out, HB9.out⟩
    case true =>
      cases c3
      case true =>
        obtain rfl : R = (z27, 1801) := hR
        clear HD
        go_enter Tryz.func17, Tryz.ntmps17
        go_upto_region 1 with (fail)
        generalize hw4 : w.alloc zeros = w4 at *
        clear hw4
        go_wp2_with (first | (go_at_call 33; (with_reducible refine (HKH.out _).mono ?_); rintro e w5 ⟨rfl, ⟨m5, rfl⟩⟩; have BZ5 := Lib.hid (blk_drewN A2.out m5); have HB5 := Lib.hid (pw_below_drewN A3.out m5)) | ((with_reducible refine gate_store (t := 27) (p := 4) rfl ?_); refine row_event (by rfl) (by rfl) (by rfl) (by rfl) (by rfl) BZ5.out (by exact size27) (by rfl) (by first | rfl | simp [Value.oneCell']) ?_; intro w9 hz9 ho9 hb9; have Z9 := Lib.hid hz9; have HO9 := Lib.hid ho9; have HB9 := Lib.hid (hb9 (Nat.le_refl _) HB5.out); clear hb9 ho9 hz9))
        refine bodyPost_ret (results_cell_row_tmp rfl _ _ w.heap.size 27 _ (0, 0) _ rfl Z9.out hu27 rfl (by exact size27)) rfl ?_
        exact ⟨_, _, rfl, Kd.R_nil _ _ _ _ _, Kd.R_nil _ _ _ _ _, HB9.out⟩
      case false =>
        cases an
        case true =>
          obtain rfl : R = (z27, 1802) := hR
          clear HD
          go_enter Tryz.func17, Tryz.ntmps17
          go_upto_region 1 with (fail)
          generalize hw4 : w.alloc zeros = w4 at *
          clear hw4
          go_wp2_with (first | (go_at_call 33; (with_reducible refine (HKH.out _).mono ?_); rintro e w5 ⟨rfl, ⟨m5, rfl⟩⟩; have BZ5 := Lib.hid (blk_drewN A2.out m5); have HB5 := Lib.hid (pw_below_drewN A3.out m5)) | (go_at_call 36; refine (HCH.out _ HB5.out).mono ?_; rintro e w6 ⟨rfl, hb6⟩; have BZ6 := Lib.hid (blk_below BZ5.out hb6); have HB6 := Lib.hid (below_step HB5.out hb6); clear hb6) | ((with_reducible refine gate_store (t := 27) (p := 4) rfl ?_); refine row_event (by rfl) (by rfl) (by rfl) (by rfl) (by rfl) BZ6.out (by exact size27) (by rfl) (by first | rfl | simp [Value.oneCell']) ?_; intro w9 hz9 ho9 hb9; have Z9 := Lib.hid hz9; have HO9 := Lib.hid ho9; have HB9 := Lib.hid (hb9 (Nat.le_refl _) HB6.out); clear hb9 ho9 hz9))
          refine bodyPost_ret (results_cell_row_tmp rfl _ _ w.heap.size 27 _ (0, 0) _ rfl Z9.out hu27 rfl (by exact size27)) rfl ?_
          exact ⟨_, _, rfl, Kd.R_nil _ _ _ _ _, Kd.R_nil _ _ _ _ _, HB9.out⟩
        case false =>
          obtain rfl : R = D := hR
          have HDH := Lib.hid (HD rfl rfl rfl)
          clear HD
          obtain ⟨y, ey⟩ := R
          have CC := Lib.hid (show ∀ (dd : Nat) B4 d4 B5 d5 W, fitD dd y → Rows4 W y B4 d4 B5 d5 → Calls Tryz.prog 25 #[.agg #[.int .i64 y.f0, .int .i64 y.f1, .int .u64 y.f2, .string y.f3, .slice B4 y.f4.length d4, .slice B5 y.f5.length d5]] W fun e w' => ∃ v4 v5, e = .returned (.agg #[.int .i64 y.f0, .int .i64 y.f1, .int .u64 y.f2, .string y.f3, v4, v5]) ∧ Kd.R k27 27 w' W.heap.size (fun k_ => some k_ ≠ v5.ownBlock) v4 y.f4 ∧ Kd.R Kd.string 9 w' W.heap.size (fun _ => True) v5 y.f5 ∧ Below W.heap.size W w' from fun dd B4 d4 B5 d5 W hf hr => Copy_all dd y B4 d4 B5 d5 W hf hr)
          go_enter Tryz.func17, Tryz.ntmps17
          go_upto_region 1 with (fail)
          generalize hw4 : w.alloc zeros = w4 at *
          clear hw4
          go_wp2_with (first | (go_at_call 33; (with_reducible refine (HKH.out _).mono ?_); rintro e w5 ⟨rfl, ⟨m5, rfl⟩⟩; have BZ5 := Lib.hid (blk_drewN A2.out m5); have HB5 := Lib.hid (pw_below_drewN A3.out m5)) | (go_at_call 36; refine (HCH.out _ HB5.out).mono ?_; rintro e w6 ⟨rfl, hb6⟩; have BZ6 := Lib.hid (blk_below BZ5.out hb6); have HB6 := Lib.hid (below_step HB5.out hb6); clear hb6) | (go_at_call 37; refine (HDH.out _ HB6.out).mono ?_; rintro e w7 ⟨B4, d4, B5, d5, rfl, hr7, ⟨dd, hfit⟩, hb7⟩; have BZ7 := Lib.hid (blk_below BZ6.out hb7); have HB7 := Lib.hid (below_step HB6.out hb7); have RR := Lib.hid hr7; have FF := Lib.hid hfit; have BN := Lib.hid (blk_new w7 zeros); have NE := Lib.hid (Nat.ne_of_lt (blk_lt (blk_below BZ6.out hb7))); have LE := Lib.hid (Nat.le_of_lt (blk_lt (blk_below BZ6.out hb7))); clear hb7 hr7 hfit) | ((with_reducible refine gate_store (t := 27) (p := 10) rfl ?_); refine row_event (by rfl) (by rfl) (by rfl) (by rfl) (by rfl) BN.out (by exact size27) (by rfl) (by first | rfl | simp [Value.oneCell']) ?_; intro w8 hz8 ho8 hb8; have BZ8 := Lib.hid ((ho8 _ NE.out).trans (blk_alloc BZ7.out zeros)); have HB8 := Lib.hid (hb8 LE.out (below_alloc HB7.out zeros)); have RR8 := Lib.hid (RR.out.below (hb8 (Nat.le_refl _) (below_alloc (Below.refl _ w7) zeros))); obtain ⟨s0, s1, s2, s3, s4, s5⟩ := At.of_box hz8; clear hb8 ho8 hz8) | (go_at_call 25; (with_reducible refine (CC.out dd B4 d4 B5 d5 _ FF.out RR8.out).mono ?_); rintro e w10 ⟨v4, v5, rfl, hk4, hk5, hb10⟩; have BG := Lib.hid (blk_lt BZ8.out); have BL := Lib.hid (below_size HB8.out); have BZ10 := Lib.hid (blk_below BZ8.out hb10); have HB10 := Lib.hid (below_step HB8.out hb10); have R4 := Lib.hid hk4; have R5 := Lib.hid hk5; have OV4 := Lib.hid (R_one hk4); have OV5 := Lib.hid (R_one hk5); clear hb10 hk4 hk5) | ((with_reducible refine gate_store (t := 27) (p := 4) rfl ?_); refine row_event (by rfl) (by rfl) (by rfl) (by rfl) (by rfl) BZ10.out (by exact size27) (by rfl) (by exact all_six _ _ _ _ _ _ OV4.out OV5.out) ?_; intro w9 hz9 ho9 hb9; have Z9 := Lib.hid hz9; have HO9 := Lib.hid ho9; have HB9 := Lib.hid (hb9 (Nat.le_refl _) HB10.out); clear hb9 ho9 hz9))
          refine bodyPost_ret (results_cell_row_tmp rfl _ _ w.heap.size 27 _ (0, 0) _ rfl Z9.out hu27 rfl (by exact size27)) rfl ?_
          exact ⟨v4, v5, rfl, R_other R4.out BG.out HO9.out BL.out, R_other R5.out BG.out HO9.out BL.out, HB9.out⟩
theorem Call_calls (nm : ByteArray) (xs : List V) (A : Option Addr) (c : Nat) (w : World) (h : ArgsC w A xs) :
    Calls Tryz.prog 17 #[.string nm, .slice A xs.length c] w fun e w' => Got w w' e (callR nm xs) := by
  refine Call_walk nm xs A c w _ _ _ _ _ _ _ (doesR (fnNo nm) xs) _ (known_calls nm) rfl rfl rfl (fun W hb => containsFunc_calls xs A c W h.few (Kd.C_below h.row hb)) ?_ rfl
  intro k1 k2 k3 W hb
  have hm : ∀ z ∈ xs, mayB z = true := fun z hz => by
    have := (List.any_eq_false.1 k3) z hz
    simpa using this
  have hA : Args W A xs := ⟨h.tabs.below hb, h.few, Kd.C_below h.row hb, fun z hz => ⟨hm z hz, h.rng z hz⟩⟩
  revert k1 k2
  refine names_of nm _ fun b0 b1 b2 b3 b4 b5 b6 b7 f hf e0 e1 e2 e3 e4 e5 e6 e7 hm => ?_
  rw [hf]
  intro k1 k2
  simp only [List.mem_cons, List.not_mem_nil, or_false, Prod.mk.injEq] at hm
  rcases hm with ⟨rfl, rfl, rfl, rfl, rfl, rfl, rfl, rfl, rfl⟩ | ⟨rfl, rfl, rfl, rfl, rfl, rfl, rfl, rfl, rfl⟩ | ⟨rfl, rfl, rfl, rfl, rfl, rfl, rfl, rfl, rfl⟩ | ⟨rfl, rfl, rfl, rfl, rfl, rfl, rfl, rfl, rfl⟩ | ⟨rfl, rfl, rfl, rfl, rfl, rfl, rfl, rfl, rfl⟩ | ⟨rfl, rfl, rfl, rfl, rfl, rfl, rfl, rfl, rfl⟩ | ⟨rfl, rfl, rfl, rfl, rfl, rfl, rfl, rfl, rfl⟩ | ⟨rfl, rfl, rfl, rfl, rfl, rfl, rfl, rfl, rfl⟩ | ⟨rfl, rfl, rfl, rfl, rfl, rfl, rfl, rfl, rfl⟩
  · exact does0 nm e0 xs A c W hA (by simp [knownR] at k2; omega)
  · exact does1 nm e0 e1 xs A c W hA (by simp [knownR] at k2; omega)
  · exact does2 nm e0 e1 e2 xs A c W hA (by simp [knownR] at k2; omega)
  · exact does3 nm e0 e1 e2 e3 xs A c W hA (by simp [knownR] at k2; omega)
  · exact does4 nm e0 e1 e2 e3 e4 xs A c W hA (by simp [knownR] at k2; omega)
  · exact does5 nm e0 e1 e2 e3 e4 e5 xs A c W hA (by simp [knownR] at k2; omega)
  · exact does6 nm e0 e1 e2 e3 e4 e5 e6 xs A c W hA (by simp [knownR] at k2; omega)
  · exact does7 nm e0 e1 e2 e3 e4 e5 e6 xs A c W hA
  · cases k1
end Go.Proofs.YtdghnfmhcnlppaaGreatDoor.Fns
namespace Go.Proofs.YtdghnfmhcnlppaaGreatDoor.Fns
open Go.RowKit Go.Proofs.YtdghnfmhcnlppaaGreatDoor.Q Go.Proofs.YtdghnfmhcnlppaaGreatDoor.Real Go.Proofs.YtdghnfmhcnlppaaGreatDoor.RealPure Go.Proofs.YtdghnfmhcnlppaaGreatDoor.Values Go.Proofs.YtdghnfmhcnlppaaGreatDoorW.PrintWords Go.Proofs.YtdghnfmhcnlppaaGreatDoorW.PrintLast Go.Proofs.YtdghnfmhcnlppaaGreatDoorW.PrintMore
set_option linter.unusedSimpArgs false
set_option linter.unusedVariables false

def fns_Call.f (a0 : ByteArray) (l1 : List S27) : Option (Int × Int × Int × ByteArray × List S27 × List ByteArray × Int) :=
  if l1.all (rngB 8) = true ∧ l1.length < 2199023255552 then some ((callR a0 l1).1.f0, (callR a0 l1).1.f1, (callR a0 l1).1.f2, (callR a0 l1).1.f3, (callR a0 l1).1.f4, (callR a0 l1).1.f5, (callR a0 l1).2) else none
theorem fns_Call.calls (a0 : ByteArray) (A1 : Option Addr) (c1 : Nat) (l1 : List S27) (r1 r2 r3 : Int) (r4 : ByteArray) (r5 : List S27) (r6 : List ByteArray) (r7 : Int) (w : World) (hT : Tabs w) (hr1 : Kd.C k27 w A1 l1.length l1) (hc1 : l1.length ≤ c1) (h : fns_Call.f a0 l1 = some (r1, r2, r3, r4, r5, r6, r7)) :
    Calls Tryz.prog 17 #[.string a0, .slice A1 l1.length c1] w fun e w' => ∃ v5 v6, e = .returned (.tuple #[.agg #[.int .i64 r1, .int .i64 r2, .int .u64 r3, .string r4, v5, v6], .int .i64 r7]) ∧ Kd.R k27 27 w' w.heap.size (fun k_ => some k_ ≠ v6.ownBlock) v5 r5 ∧ Kd.R Kd.string 9 w' w.heap.size (fun _ => True) v6 r6 ∧ Below w.heap.size w w' := by
  unfold fns_Call.f at h
  split at h
  · rename_i hc
    have h := Option.some.inj h
    have h1 := congrArg (·.1) h
    have h2 := congrArg (·.2.1) h
    have h3 := congrArg (·.2.2.1) h
    have h4 := congrArg (·.2.2.2.1) h
    have h5 := congrArg (·.2.2.2.2.1) h
    have h6 := congrArg (·.2.2.2.2.2.1) h
    have h7 := congrArg (·.2.2.2.2.2.2) h
    simp only at h1 h2 h3 h4 h5 h6 h7
    subst h1 h2 h3 h4 h5 h6 h7
    exact Call_calls a0 l1 A1 c1 w ⟨hT, hc.2, hr1, fun z hz => rng_of 8 z (List.all_eq_true.1 hc.1 z hz)⟩
  · cases h
/-- A literal row of values. -/
theorem row_lit (W : World) (xs : List V) (cs : List Value) (h : Reps (k27.K W) 6 xs cs) (hl : xs.length ≤ 9223372036854775807) : Kd.C k27 (W.alloc (.cells cs.toArray 27)) (some ⟨W.heap.size, 0, none⟩) xs.length xs := by
  have ho := OwnRow.lit (e := 27) W W.heap.size h (Nat.le_refl _) hl
  obtain ⟨A, c, he, _, hr⟩ := OwnRow.reads ho
  have hA : A = some ⟨W.heap.size, 0, none⟩ := by injection he with e1; exact e1.symm
  subst hA
  exact hr.imp_ (Below.refl _ _) (fun p c hp => k27.K_below (below_alloc (Below.refl _ _) _) hp)
/-- One value's cells. -/
theorem K_of {W : World} {x : V} {A4 : Option Addr} {c4 : Nat} {A5 : Option Addr} {c5 : Nat} (h : Rows4 W x A4 c4 A5 c5) : k27.K W x [.int .i64 x.f0, .int .i64 x.f1, .int .u64 x.f2, .string x.f3, .slice A4 x.f4.length c4, .slice A5 x.f5.length c5] := k27_mk W x h.l4 h.k4 h.l5 h.k5
theorem reps1 {W : World} {x : V} {cs : List Value} (h : k27.K W x cs) : Reps (k27.K W) 6 [x] cs := by
  have := (Reps.none (k27.K W) 6).snoc h (k27.K_len h)
  simpa using this
end Go.Proofs.YtdghnfmhcnlppaaGreatDoor.Fns
