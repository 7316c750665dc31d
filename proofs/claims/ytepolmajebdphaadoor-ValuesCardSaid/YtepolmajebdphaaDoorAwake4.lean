/- stolelaw4.awake, walked. · stolelaw4.awake, walked: the walk. -/
import Derived.Test.YtepolmajebdphaaDoorValues
import Derived.Test.YtepolmajebdphaaDoorValuesK
import Derived.Test.YtepolmajebdphaaDoorSv
import Derived.Test.YtepolmajebdphaaDoorQ3
namespace Go.Proofs.YtepolmajebdphaaDoor.Values
open Go.RowKit Go.Proofs.YtepolmajebdphaaDoor.Q Go.Proofs.YtepolmajebdphaaDoor.Real Go.Proofs.YtepolmajebdphaaDoor.RealPure Go.Proofs.YtepolmajebdphaaDoorW.PrintWords Go.Proofs.YtepolmajebdphaaDoorW.PrintLast Go.Proofs.YtepolmajebdphaaDoorW.PrintMore
set_option linter.unusedSimpArgs false
set_option linter.unusedVariables false

def numV (i : Int) : V := ⟨2, i, 0, ⟨#[]⟩, [], []⟩
def textV (s : ByteArray) : V := ⟨4, 0, 0, s, [], []⟩
def bitsV (i : Int) : V := ⟨3, 0, i, ⟨#[]⟩, [], []⟩
def recV : V := ⟨6, 0, 0, ⟨#[]⟩, [numV 5, textV ⟨#[120]⟩], [⟨#[97]⟩, ⟨#[98]⟩]⟩

set_option maxRecDepth 100000

theorem num_calls (i : Int) (w : World) : Calls Tryd.prog 38 #[.int .i64 i] w fun e w' => e = .returned (.agg #[.int .i64 2, .int .i64 i, .int .u64 0, .string ⟨#[]⟩, .slice none 0 0, .slice none 0 0]) ∧ Below w.heap.size w w' := by
  have hu26 := Tryd.underlying26
  go_enter Tryd.func38, Tryd.ntmps38
  go_wp2
  refine bodyPost_ret (results_cell_row rfl _ _ w.heap.size 26 _ (0, 0) _ rfl (blk_new w _) hu26 rfl (by exact size26)) rfl ?_
  exact ⟨rfl, below_alloc (Below.refl _ _) _⟩

theorem bits_calls (i : Int) (w : World) : Calls Tryd.prog 36 #[.int .u64 i] w fun e w' => e = .returned (.agg #[.int .i64 3, .int .i64 0, .int .u64 i, .string ⟨#[]⟩, .slice none 0 0, .slice none 0 0]) ∧ Below w.heap.size w w' := by
  have hu26 := Tryd.underlying26
  go_enter Tryd.func36, Tryd.ntmps36
  go_wp2
  refine bodyPost_ret (results_cell_row rfl _ _ w.heap.size 26 _ (0, 0) _ rfl (blk_new w _) hu26 rfl (by exact size26)) rfl ?_
  exact ⟨rfl, below_alloc (Below.refl _ _) _⟩

theorem text_calls (s : ByteArray) (w : World) : Calls Tryd.prog 39 #[.string s] w fun e w' => e = .returned (.agg #[.int .i64 4, .int .i64 0, .int .u64 0, .string s, .slice none 0 0, .slice none 0 0]) ∧ Below w.heap.size w w' := by
  have hu26 := Tryd.underlying26
  go_enter Tryd.func39, Tryd.ntmps39
  go_wp2
  refine bodyPost_ret (results_cell_row rfl _ _ w.heap.size 26 _ (0, 0) _ rfl (blk_new w _) hu26 rfl (by exact size26)) rfl ?_
  exact ⟨rfl, below_alloc (Below.refl _ _) _⟩

theorem rowsNil (x : V) (h4 : x.f4 = []) (h5 : x.f5 = []) (w : World) : Rows4 w x none 0 none 0 :=
  ⟨by rw [h4]; exact Kd.C_nil _ _, by rw [h4]; exact Nat.le_refl _, by rw [h5]; exact Kd.C_nil _ _, by rw [h5]; exact Nat.le_refl _⟩

structure Aw (w W : World) (gk gi gr : Nat) : Prop where
  K : W.heap[gk]? = some (.cells #[.string ⟨#[97]⟩, .string ⟨#[98]⟩] 9 (0, 0))
  I : W.heap[gi]? = some (.cells #[.int .i64 2, .int .i64 5, .int .u64 0, .string ⟨#[]⟩, .slice none 0 0, .slice none 0 0, .int .i64 4, .int .i64 0, .int .u64 0, .string ⟨#[120]⟩, .slice none 0 0, .slice none 0 0] 26 (0, 0))
  R : W.heap[gr]? = some (.cells #[.int .i64 6, .int .i64 0, .int .u64 0, .string ⟨#[]⟩, .slice (some ⟨gi, 0, none⟩) 2 2, .slice (some ⟨gk, 0, none⟩) 2 2] 26 (0, 0))
  B : Below w.heap.size w W
theorem Aw.below {w W W1 : World} {gk gi gr : Nat} (h : Aw w W gk gi gr) (hb : Below W.heap.size W W1) : Aw w W1 gk gi gr :=
  ⟨blk_below h.K hb, blk_below h.I hb, blk_below h.R hb, below_step h.B hb⟩
theorem Aw.alloc {w W : World} {gk gi gr : Nat} (h : Aw w W gk gi gr) (o : Obj) : Aw w (W.alloc o) gk gi gr := h.below (below_alloc (Below.refl _ _) o)
theorem Aw.rows {w W : World} {gk gi gr : Nat} (h : Aw w W gk gi gr) : Rows4 W recV (some ⟨gi, 0, none⟩) 2 (some ⟨gk, 0, none⟩) 2 := by
  refine ⟨⟨rfl, by decide, fun _ => ⟨⟨gi, 0, none⟩, rfl, fun j p hp => ?_⟩⟩, Nat.le_refl _, ⟨rfl, by decide, fun _ => ⟨⟨gk, 0, none⟩, rfl, fun j p hp => ?_⟩⟩, Nat.le_refl _⟩
  · rcases j with _ | _ | j
    · obtain rfl : numV 5 = p := Option.some.inj hp
      refine ⟨[.int .i64 2, .int .i64 5, .int .u64 0, .string ⟨#[]⟩, .slice none 0 0, .slice none 0 0], rfl, k26_mk W (numV 5) (A4 := none) (c4 := 0) (Nat.le_refl _) (Kd.C_nil _ _) (A5 := none) (c5 := 0) (Nat.le_refl _) (Kd.C_nil _ _), fun i u hu => ?_⟩
      rw [Addr.add_lit, blk_cell h.I _]
      rcases i with _ | _ | _ | _ | _ | _ | i <;> first | exact hu | (simp at hu)
    · obtain rfl : textV ⟨#[120]⟩ = p := Option.some.inj hp
      refine ⟨[.int .i64 4, .int .i64 0, .int .u64 0, .string ⟨#[120]⟩, .slice none 0 0, .slice none 0 0], rfl, k26_mk W (textV ⟨#[120]⟩) (A4 := none) (c4 := 0) (Nat.le_refl _) (Kd.C_nil _ _) (A5 := none) (c5 := 0) (Nat.le_refl _) (Kd.C_nil _ _), fun i u hu => ?_⟩
      rw [Addr.add_lit, blk_cell h.I _]
      rcases i with _ | _ | _ | _ | _ | _ | i <;> first | exact hu | (simp at hu)
    · exact absurd (show ([] : List V)[j]? = some p from hp) (by simp)
  · rcases j with _ | _ | j
    · obtain rfl : (⟨#[97]⟩ : ByteArray) = p := Option.some.inj hp
      refine ⟨[.string ⟨#[97]⟩], rfl, rfl, fun i u hu => ?_⟩
      rw [Addr.add_lit, blk_cell h.K _]
      rcases i with _ | i <;> first | exact hu | (simp at hu)
    · obtain rfl : (⟨#[98]⟩ : ByteArray) = p := Option.some.inj hp
      refine ⟨[.string ⟨#[98]⟩], rfl, rfl, fun i u hu => ?_⟩
      rw [Addr.add_lit, blk_cell h.K _]
      rcases i with _ | i <;> first | exact hu | (simp at hu)
    · exact absurd (show ([] : List ByteArray)[j]? = some p from hp) (by simp)

/-- The contracts at the arguments of 'awake'. -/
theorem path1 (W : World) (a : ByteArray) : Kd.C Kd.string (W.alloc (.cells #[.string a] 9)) (some ⟨W.heap.size, 0, none⟩) 1 [a] :=
  ⟨rfl, by decide, fun _ => ⟨⟨W.heap.size, 0, none⟩, rfl, fun j p hp => by
    rcases j with _ | j
    · obtain rfl : a = p := Option.some.inj hp
      refine ⟨[.string a], rfl, rfl, fun i u hu => ?_⟩
      rw [Addr.add_lit, blk_cell (blk_new W _) _]
      rcases i with _ | i <;> first | exact hu | (simp at hu)
    · exact absurd (show ([] : List ByteArray)[j]? = some p from hp) (by simp)⟩⟩
theorem path2 (W : World) (a b : ByteArray) : Kd.C Kd.string (W.alloc (.cells #[.string a, .string b] 9)) (some ⟨W.heap.size, 0, none⟩) 2 [a, b] :=
  ⟨rfl, by decide, fun _ => ⟨⟨W.heap.size, 0, none⟩, rfl, fun j p hp => by
    rcases j with _ | _ | j
    · obtain rfl : a = p := Option.some.inj hp
      refine ⟨[.string a], rfl, rfl, fun i u hu => ?_⟩
      rw [Addr.add_lit, blk_cell (blk_new W _) _]
      rcases i with _ | i <;> first | exact hu | (simp at hu)
    · obtain rfl : b = p := Option.some.inj hp
      refine ⟨[.string b], rfl, rfl, fun i u hu => ?_⟩
      rw [Addr.add_lit, blk_cell (blk_new W _) _]
      rcases i with _ | i <;> first | exact hu | (simp at hu)
    · exact absurd (show ([] : List ByteArray)[j]? = some p from hp) (by simp)⟩⟩

theorem mRec : mayB recV = true := by kernel_rfl
theorem mMax : mayB (numV 9007199254740992) = false := by kernel_rfl
theorem tRec : truthB recV = true := by kernel_rfl
theorem tZero : (mayB (bitsV 9223372036854775808) && truthB (bitsV 9223372036854775808)) = false := by kernel_rfl
theorem sZero : mayB (bitsV 9223372036854775808) = true := by kernel_rfl
theorem sZero1 : saidS (bitsV 9223372036854775808) = ⟨#[45, 48]⟩ := by kernel_rfl
theorem gB : getR recV [⟨#[98]⟩] = (textV ⟨#[120]⟩, 0) := by kernel_rfl
theorem gC : getR recV [⟨#[99]⟩] = (z26, 401) := by kernel_rfl
theorem gAB : getR recV [⟨#[97]⟩, ⟨#[98]⟩] = (z26, 402) := by kernel_rfl
theorem lR : lessB (bitsV 13830554455654793216) (bitsV 0) = true := by kernel_rfl
theorem lRe : lessE (bitsV 13830554455654793216) (bitsV 0) = 0 := by kernel_rfl
theorem lT : lessB (numV 1) (textV ⟨#[49]⟩) = false := by kernel_rfl
theorem lTe : lessE (numV 1) (textV ⟨#[49]⟩) = 402 := by kernel_rfl
theorem sameZ : (mayB (bitsV 0) && mayB (bitsV 9223372036854775808) && sameD 8 (bitsV 0) (bitsV 9223372036854775808)) = true := by kernel_rfl
theorem sameN : (mayB (bitsV 9221120237041090560) && mayB (bitsV 9221120237041090560) && sameD 8 (bitsV 9221120237041090560) (bitsV 9221120237041090560)) = false := by kernel_rfl
end Go.Proofs.YtepolmajebdphaaDoor.Values
namespace Go.Proofs.YtepolmajebdphaaDoor.Values
open Go.RowKit Go.Proofs.YtepolmajebdphaaDoor.Q Go.Proofs.YtepolmajebdphaaDoor.Real Go.Proofs.YtepolmajebdphaaDoor.RealPure Go.Proofs.YtepolmajebdphaaDoorW.PrintWords Go.Proofs.YtepolmajebdphaaDoorW.PrintLast Go.Proofs.YtepolmajebdphaaDoorW.PrintMore
set_option linter.unusedSimpArgs false
set_option linter.unusedVariables false
set_option maxRecDepth 100000

theorem aw_mayR {w : World} {gk gi gr : Nat} (W : World) (h : Aw w W gk gi gr) : Calls Tryd.prog 28 #[.agg #[.int .i64 6, .int .i64 0, .int .u64 0, .string ⟨#[]⟩, .slice (some ⟨gi, 0, none⟩) 2 2, .slice (some ⟨gk, 0, none⟩) 2 2]] W fun e w' => e = .returned (.bool true) ∧ Below W.heap.size W w' := by
  have t := May_calls recV (some ⟨gi, 0, none⟩) 2 (some ⟨gk, 0, none⟩) 2 W h.rows
  rw [mRec] at t
  exact t

theorem aw_mayN {w : World} {gk gi gr : Nat} (W : World) (h : Aw w W gk gi gr) : Calls Tryd.prog 28 #[.agg #[.int .i64 2, .int .i64 9007199254740992, .int .u64 0, .string ⟨#[]⟩, .slice none 0 0, .slice none 0 0]] W fun e w' => e = .returned (.bool false) ∧ Below W.heap.size W w' := by
  have t := May_calls (numV 9007199254740992) none 0 none 0 W (rowsNil _ rfl rfl W)
  rw [mMax] at t
  exact t

theorem aw_trueR {w : World} {gk gi gr : Nat} (W : World) (h : Aw w W gk gi gr) : Calls Tryd.prog 30 #[.agg #[.int .i64 6, .int .i64 0, .int .u64 0, .string ⟨#[]⟩, .slice (some ⟨gi, 0, none⟩) 2 2, .slice (some ⟨gk, 0, none⟩) 2 2]] W fun e w' => e = .returned (.bool true) ∧ Below W.heap.size W w' := by
  have t := True_calls recV (some ⟨gi, 0, none⟩) 2 (some ⟨gk, 0, none⟩) 2 W h.rows (by decide) (by decide)
  rw [mRec, tRec] at t
  exact t

theorem aw_trueZ {w : World} {gk gi gr : Nat} (W : World) (h : Aw w W gk gi gr) : Calls Tryd.prog 30 #[.agg #[.int .i64 3, .int .i64 0, .int .u64 9223372036854775808, .string ⟨#[]⟩, .slice none 0 0, .slice none 0 0]] W fun e w' => e = .returned (.bool false) ∧ Below W.heap.size W w' := by
  have t := True_calls (bitsV 9223372036854775808) none 0 none 0 W (rowsNil _ rfl rfl W) (by decide) (by decide)
  rw [tZero] at t
  exact t

theorem aw_textZ {w : World} {gk gi gr : Nat} (W : World) (h : Aw w W gk gi gr) (hT : Tabs W) : Calls Tryd.prog 19 #[.agg #[.int .i64 3, .int .i64 0, .int .u64 9223372036854775808, .string ⟨#[]⟩, .slice none 0 0, .slice none 0 0]] W fun e w' => e = .returned (.tuple #[.string ⟨#[45, 48]⟩, .int .i64 0]) ∧ Below W.heap.size W w' := by
  have t := Text_calls (bitsV 9223372036854775808) none 0 none 0 W hT (rowsNil _ rfl rfl W) (by decide) (by decide)
  rw [if_pos sZero, if_pos sZero, sZero1] at t
  exact t

theorem aw_textR {w : World} {gk gi gr : Nat} (W : World) (h : Aw w W gk gi gr) (hT : Tabs W) : Calls Tryd.prog 19 #[.agg #[.int .i64 6, .int .i64 0, .int .u64 0, .string ⟨#[]⟩, .slice (some ⟨gi, 0, none⟩) 2 2, .slice (some ⟨gk, 0, none⟩) 2 2]] W fun e w' => e = .returned (.tuple #[.string ⟨#[]⟩, .int .i64 402]) ∧ Below W.heap.size W w' := by
  have t := Text_calls recV (some ⟨gi, 0, none⟩) 2 (some ⟨gk, 0, none⟩) 2 W hT h.rows (by decide) (by decide)
  rw [if_pos mRec, if_pos mRec] at t
  exact t

theorem aw_lessR {w : World} {gk gi gr : Nat} (W : World) (h : Aw w W gk gi gr) : Calls Tryd.prog 21 #[.agg #[.int .i64 3, .int .i64 0, .int .u64 13830554455654793216, .string ⟨#[]⟩, .slice none 0 0, .slice none 0 0], .agg #[.int .i64 3, .int .i64 0, .int .u64 0, .string ⟨#[]⟩, .slice none 0 0, .slice none 0 0]] W fun e w' => e = .returned (.tuple #[.bool true, .int .i64 0]) ∧ Below W.heap.size W w' := by
  have t := Less_calls (bitsV 13830554455654793216) (bitsV 0) none 0 none 0 none 0 none 0 W (rowsNil _ rfl rfl W) (rowsNil _ rfl rfl W)
  rw [lR, lRe] at t
  exact t

theorem aw_lessT {w : World} {gk gi gr : Nat} (W : World) (h : Aw w W gk gi gr) : Calls Tryd.prog 21 #[.agg #[.int .i64 2, .int .i64 1, .int .u64 0, .string ⟨#[]⟩, .slice none 0 0, .slice none 0 0], .agg #[.int .i64 4, .int .i64 0, .int .u64 0, .string ⟨#[49]⟩, .slice none 0 0, .slice none 0 0]] W fun e w' => e = .returned (.tuple #[.bool false, .int .i64 402]) ∧ Below W.heap.size W w' := by
  have t := Less_calls (numV 1) (textV ⟨#[49]⟩) none 0 none 0 none 0 none 0 W (rowsNil _ rfl rfl W) (rowsNil _ rfl rfl W)
  rw [lT, lTe] at t
  exact t

theorem aw_sameZ {w : World} {gk gi gr : Nat} (W : World) (h : Aw w W gk gi gr) : Calls Tryd.prog 32 #[.agg #[.int .i64 3, .int .i64 0, .int .u64 0, .string ⟨#[]⟩, .slice none 0 0, .slice none 0 0], .agg #[.int .i64 3, .int .i64 0, .int .u64 9223372036854775808, .string ⟨#[]⟩, .slice none 0 0, .slice none 0 0]] W fun e w' => e = .returned (.bool true) ∧ Below W.heap.size W w' := by
  have t := Same_calls (bitsV 0) (bitsV 9223372036854775808) none 0 none 0 none 0 none 0 W (rowsNil _ rfl rfl W) (rowsNil _ rfl rfl W) ⟨by decide, by decide, fun z hz => by cases hz⟩ ⟨by decide, by decide, fun z hz => by cases hz⟩
  rw [sameZ] at t
  exact t

theorem aw_sameN {w : World} {gk gi gr : Nat} (W : World) (h : Aw w W gk gi gr) : Calls Tryd.prog 32 #[.agg #[.int .i64 3, .int .i64 0, .int .u64 9221120237041090560, .string ⟨#[]⟩, .slice none 0 0, .slice none 0 0], .agg #[.int .i64 3, .int .i64 0, .int .u64 9221120237041090560, .string ⟨#[]⟩, .slice none 0 0, .slice none 0 0]] W fun e w' => e = .returned (.bool false) ∧ Below W.heap.size W w' := by
  have t := Same_calls (bitsV 9221120237041090560) (bitsV 9221120237041090560) none 0 none 0 none 0 none 0 W (rowsNil _ rfl rfl W) (rowsNil _ rfl rfl W) ⟨by decide, by decide, fun z hz => by cases hz⟩ ⟨by decide, by decide, fun z hz => by cases hz⟩
  rw [sameN] at t
  exact t

theorem aw_getB {w : World} {gk gi gr : Nat} (W : World) (h : Aw w W gk gi gr) : Calls Tryd.prog 23 #[.agg #[.int .i64 6, .int .i64 0, .int .u64 0, .string ⟨#[]⟩, .slice (some ⟨gi, 0, none⟩) 2 2, .slice (some ⟨gk, 0, none⟩) 2 2], .slice (some ⟨W.heap.size, 0, none⟩) 1 1] (W.alloc (.cells #[.string ⟨#[98]⟩] 9)) fun e w' => (∃ A c B d, e = .returned (.tuple #[.agg #[.int .i64 4, .int .i64 0, .int .u64 0, .string ⟨#[120]⟩, .slice A 0 c, .slice B 0 d], .int .i64 0])) ∧ Below W.heap.size W w' := by
  refine (Get_leaf recV (some ⟨gi, 0, none⟩) 2 (some ⟨gk, 0, none⟩) 2 (some ⟨W.heap.size, 0, none⟩) 1 [⟨#[98]⟩] (W.alloc (.cells #[.string ⟨#[98]⟩] 9)) (h.alloc _).rows (path1 W _) (by rw [gB]; rfl) (by rw [gB]; rfl)).mono ?_
  rintro e w' ⟨v4, v5, rfl, h4, h5, hb⟩
  rw [gB] at h4 h5 ⊢
  refine ⟨?_, below_step (below_alloc (Below.refl _ _) _) hb⟩
  obtain ⟨_, i4, o4, _⟩ := h4
  obtain ⟨_, i5, o5, _⟩ := h5
  rcases o4.2 with ⟨rfl, _⟩ | ⟨g, cap, cur, rfl, _⟩ <;> rcases o5.2 with ⟨rfl, _⟩ | ⟨g', cap', cur', rfl, _⟩ <;> exact ⟨_, _, _, _, rfl⟩

theorem aw_getC {w : World} {gk gi gr : Nat} (W : World) (h : Aw w W gk gi gr) : Calls Tryd.prog 23 #[.agg #[.int .i64 6, .int .i64 0, .int .u64 0, .string ⟨#[]⟩, .slice (some ⟨gi, 0, none⟩) 2 2, .slice (some ⟨gk, 0, none⟩) 2 2], .slice (some ⟨W.heap.size, 0, none⟩) 1 1] (W.alloc (.cells #[.string ⟨#[99]⟩] 9)) fun e w' => (∃ A c B d, e = .returned (.tuple #[.agg #[.int .i64 0, .int .i64 0, .int .u64 0, .string ⟨#[]⟩, .slice A 0 c, .slice B 0 d], .int .i64 401])) ∧ Below W.heap.size W w' := by
  refine (Get_leaf recV (some ⟨gi, 0, none⟩) 2 (some ⟨gk, 0, none⟩) 2 (some ⟨W.heap.size, 0, none⟩) 1 [⟨#[99]⟩] (W.alloc (.cells #[.string ⟨#[99]⟩] 9)) (h.alloc _).rows (path1 W _) (by rw [gC]; rfl) (by rw [gC]; rfl)).mono ?_
  rintro e w' ⟨v4, v5, rfl, h4, h5, hb⟩
  rw [gC] at h4 h5 ⊢
  refine ⟨?_, below_step (below_alloc (Below.refl _ _) _) hb⟩
  obtain ⟨_, i4, o4, _⟩ := h4
  obtain ⟨_, i5, o5, _⟩ := h5
  rcases o4.2 with ⟨rfl, _⟩ | ⟨g, cap, cur, rfl, _⟩ <;> rcases o5.2 with ⟨rfl, _⟩ | ⟨g', cap', cur', rfl, _⟩ <;> exact ⟨_, _, _, _, rfl⟩

theorem aw_getAB {w : World} {gk gi gr : Nat} (W : World) (h : Aw w W gk gi gr) : Calls Tryd.prog 23 #[.agg #[.int .i64 6, .int .i64 0, .int .u64 0, .string ⟨#[]⟩, .slice (some ⟨gi, 0, none⟩) 2 2, .slice (some ⟨gk, 0, none⟩) 2 2], .slice (some ⟨W.heap.size, 0, none⟩) 2 2] (W.alloc (.cells #[.string ⟨#[97]⟩, .string ⟨#[98]⟩] 9)) fun e w' => (∃ A c B d, e = .returned (.tuple #[.agg #[.int .i64 0, .int .i64 0, .int .u64 0, .string ⟨#[]⟩, .slice A 0 c, .slice B 0 d], .int .i64 402])) ∧ Below W.heap.size W w' := by
  refine (Get_leaf recV (some ⟨gi, 0, none⟩) 2 (some ⟨gk, 0, none⟩) 2 (some ⟨W.heap.size, 0, none⟩) 2 [⟨#[97]⟩, ⟨#[98]⟩] (W.alloc (.cells #[.string ⟨#[97]⟩, .string ⟨#[98]⟩] 9)) (h.alloc _).rows (path2 W _ _) (by rw [gAB]; rfl) (by rw [gAB]; rfl)).mono ?_
  rintro e w' ⟨v4, v5, rfl, h4, h5, hb⟩
  rw [gAB] at h4 h5 ⊢
  refine ⟨?_, below_step (below_alloc (Below.refl _ _) _) hb⟩
  obtain ⟨_, i4, o4, _⟩ := h4
  obtain ⟨_, i5, o5, _⟩ := h5
  rcases o4.2 with ⟨rfl, _⟩ | ⟨g, cap, cur, rfl, _⟩ <;> rcases o5.2 with ⟨rfl, _⟩ | ⟨g', cap', cur', rfl, _⟩ <;> exact ⟨_, _, _, _, rfl⟩

theorem aw_num {w : World} {gk gi gr : Nat} (W : World) (h : Aw w W gk gi gr) (i : Int) : Calls Tryd.prog 38 #[.int .i64 i] W fun e w' => e = .returned (.agg #[.int .i64 2, .int .i64 i, .int .u64 0, .string ⟨#[]⟩, .slice none 0 0, .slice none 0 0]) ∧ Below W.heap.size W w' := num_calls i W
theorem aw_bits {w : World} {gk gi gr : Nat} (W : World) (h : Aw w W gk gi gr) (i : Int) : Calls Tryd.prog 36 #[.int .u64 i] W fun e w' => e = .returned (.agg #[.int .i64 3, .int .i64 0, .int .u64 i, .string ⟨#[]⟩, .slice none 0 0, .slice none 0 0]) ∧ Below W.heap.size W w' := bits_calls i W
theorem aw_text {w : World} {gk gi gr : Nat} (W : World) (h : Aw w W gk gi gr) (s : ByteArray) : Calls Tryd.prog 39 #[.string s] W fun e w' => e = .returned (.agg #[.int .i64 4, .int .i64 0, .int .u64 0, .string s, .slice none 0 0, .slice none 0 0]) ∧ Below W.heap.size W w' := text_calls s W
theorem aw_Num {w : World} {gk gi gr : Nat} (W : World) (h : Aw w W gk gi gr) (i : Int) : Calls Tryd.prog 25 #[.int .i64 i] W fun e w' => e = .returned (.int .i64 i) ∧ Below W.heap.size W w' :=
  (stolelaw0_Num.calls i i W rfl).mono fun e w' ⟨h1, h2⟩ => ⟨h1, h2.below⟩
theorem aw_sameV {w : World} {gk gi gr : Nat} (W : World) (h : Aw w W gk gi gr) (A : Option Addr) (c : Nat) (B : Option Addr) (d : Nat) : Calls Tryd.prog 26 #[.agg #[.int .i64 4, .int .i64 0, .int .u64 0, .string ⟨#[120]⟩, .slice A 0 c, .slice B 0 d], .agg #[.int .i64 4, .int .i64 0, .int .u64 0, .string ⟨#[120]⟩, .slice none 0 0, .slice none 0 0]] W fun e w' => e = .returned (.bool true) ∧ Below W.heap.size W w' :=
  sv_leafs (⟨4, 0, 0, ⟨#[120]⟩, [], []⟩ : V) (⟨4, 0, 0, ⟨#[120]⟩, [], []⟩ : V) rfl rfl rfl rfl (by kernel_rfl) A c B d W
theorem Aw.cells {w W : World} {gk gi gr : Nat} (h : Aw w W gk gi gr) : W.cell? ⟨gr, 0, none⟩ = some (.int .i64 6) ∧ W.cell? ⟨gr, 1, none⟩ = some (.int .i64 0) ∧ W.cell? ⟨gr, 2, none⟩ = some (.int .u64 0) ∧ W.cell? ⟨gr, 3, none⟩ = some (.string ⟨#[]⟩) ∧ W.cell? ⟨gr, 4, none⟩ = some (.slice (some ⟨gi, 0, none⟩) 2 2) ∧ W.cell? ⟨gr, 5, none⟩ = some (.slice (some ⟨gk, 0, none⟩) 2 2) :=
  ⟨(blk_cell h.R 0).trans rfl, (blk_cell h.R 1).trans rfl, (blk_cell h.R 2).trans rfl, (blk_cell h.R 3).trans rfl, (blk_cell h.R 4).trans rfl, (blk_cell h.R 5).trans rfl⟩
theorem Aw.tabs {w W : World} {gk gi gr : Nat} (h : Aw w W gk gi gr) (hT : Tabs w) : Tabs W := hT.below h.B

theorem six {W : World} {g : Nat} {v0 v1 v2 v3 v4 v5 : Value} {e : TypeId} (h : W.heap[g]? = some (.cells #[v0, v1, v2, v3, v4, v5] e (0, 0))) : W.cell? ⟨g, 0, none⟩ = some v0 ∧ W.cell? ⟨g, 1, none⟩ = some v1 ∧ W.cell? ⟨g, 2, none⟩ = some v2 ∧ W.cell? ⟨g, 3, none⟩ = some v3 ∧ W.cell? ⟨g, 4, none⟩ = some v4 ∧ W.cell? ⟨g, 5, none⟩ = some v5 :=
  ⟨(blk_cell h 0).trans rfl, (blk_cell h 1).trans rfl, (blk_cell h 2).trans rfl, (blk_cell h 3).trans rfl, (blk_cell h 4).trans rfl, (blk_cell h 5).trans rfl⟩
theorem keepS {w W W1 : World} {gk gi gr gc : Nat} {A : Option Addr} {c : Nat} {B : Option Addr} {d : Nat} (h : Aw w W gk gi gr) (hc : W.heap[gc]? = some (.cells #[.int .i64 4, .int .i64 0, .int .u64 0, .string ⟨#[120]⟩, .slice A 0 c, .slice B 0 d] 26 (0, 0))) (hb : Below W.heap.size W W1) : Aw w W1 gk gi gr ∧ W1.heap[gc]? = some (.cells #[.int .i64 4, .int .i64 0, .int .u64 0, .string ⟨#[120]⟩, .slice A 0 c, .slice B 0 d] 26 (0, 0)) ∧ W1.cell? ⟨gr, 0, none⟩ = some (.int .i64 6) ∧ W1.cell? ⟨gr, 1, none⟩ = some (.int .i64 0) ∧ W1.cell? ⟨gr, 2, none⟩ = some (.int .u64 0) ∧ W1.cell? ⟨gr, 3, none⟩ = some (.string ⟨#[]⟩) ∧ W1.cell? ⟨gr, 4, none⟩ = some (.slice (some ⟨gi, 0, none⟩) 2 2) ∧ W1.cell? ⟨gr, 5, none⟩ = some (.slice (some ⟨gk, 0, none⟩) 2 2) ∧ W1.cell? ⟨gc, 0, none⟩ = some (.int .i64 4) ∧ W1.cell? ⟨gc, 1, none⟩ = some (.int .i64 0) ∧ W1.cell? ⟨gc, 2, none⟩ = some (.int .u64 0) ∧ W1.cell? ⟨gc, 3, none⟩ = some (.string ⟨#[120]⟩) ∧ W1.cell? ⟨gc, 4, none⟩ = some (.slice A 0 c) ∧ W1.cell? ⟨gc, 5, none⟩ = some (.slice B 0 d) := by
  have h1 := h.below hb
  have c1 := blk_below hc hb
  obtain ⟨r0, r1, r2, r3, r4, r5⟩ := h1.cells
  obtain ⟨k0, k1, k2, k3, k4, k5⟩ := six c1
  exact ⟨h1, c1, r0, r1, r2, r3, r4, r5, k0, k1, k2, k3, k4, k5⟩
set_option maxHeartbeats 16000000 in
theorem awake_calls (w : World) (hT : Tabs w) : Calls Tryd.prog 35 #[] w fun e w' => e = .returned (.bool true) ∧ Below w.heap.size w w' := by
  have HT := Lib.hid hT
  clear hT
  have CN := Lib.hid num_calls; have CT := Lib.hid text_calls
  go_enter Tryd.func35, Tryd.ntmps35
  go_upto_region 2 with (first | (go_at_call 38; refine (CN.out _ _).mono ?_; rintro e w1 ⟨rfl, hb1⟩; have K1 := Lib.hid (blk_below (blk_new _ _) hb1); have B1 := Lib.hid (below_step (below_alloc (Below.refl w.heap.size w) _) hb1); clear hb1) | (go_at_call 39; refine (CT.out _ _).mono ?_; rintro e w2 ⟨rfl, hb2⟩; have K2 := Lib.hid (blk_below K1.out hb2); have B2 := Lib.hid (below_step B1.out hb2); clear hb2))
  have AW : Hid (Aw w ((w2.alloc (.cells #[.int .i64 2, .int .i64 5, .int .u64 0, .string ⟨#[]⟩, .slice none 0 0, .slice none 0 0, .int .i64 4, .int .i64 0, .int .u64 0, .string ⟨#[120]⟩, .slice none 0 0, .slice none 0 0] 26)).alloc (.cells #[.int .i64 6, .int .i64 0, .int .u64 0, .string ⟨#[]⟩, .slice (some ⟨w2.heap.size, 0, none⟩) 2 2, .slice (some ⟨w.heap.size, 0, none⟩) 2 2] 26)) w.heap.size w2.heap.size (w2.heap.size + 1)) :=
    Lib.hid ⟨blk_alloc (blk_alloc K2.out _) _, blk_alloc (blk_new _ _) _, by have := blk_new (w2.alloc (.cells #[.int .i64 2, .int .i64 5, .int .u64 0, .string ⟨#[]⟩, .slice none 0 0, .slice none 0 0, .int .i64 4, .int .i64 0, .int .u64 0, .string ⟨#[120]⟩, .slice none 0 0, .slice none 0 0] 26)) (.cells #[.int .i64 6, .int .i64 0, .int .u64 0, .string ⟨#[]⟩, .slice (some ⟨w2.heap.size, 0, none⟩) 2 2, .slice (some ⟨w.heap.size, 0, none⟩) 2 2] 26); simpa using this, below_alloc (below_alloc B2.out _) _⟩
  clear K1 K2 B1 B2 CN CT
  go_upto_region 3 with (first | (go_at_call 28; (with_reducible refine (aw_mayR _ (by first | exact AW.out | exact AW.out.alloc _)).mono ?_); rintro e wn ⟨rfl, hb⟩; have AW1 := Lib.hid ((by first | exact AW.out | exact AW.out.alloc _ : Aw w _ _ _ _).below hb); clear AW; have AW := AW1; clear AW1; clear hb; obtain ⟨g0, g1, g2, g3, g4, g5⟩ := AW.out.cells) | (go_at_call 28; (with_reducible refine (aw_mayN _ (by first | exact AW.out | exact AW.out.alloc _)).mono ?_); rintro e wn ⟨rfl, hb⟩; have AW1 := Lib.hid ((by first | exact AW.out | exact AW.out.alloc _ : Aw w _ _ _ _).below hb); clear AW; have AW := AW1; clear AW1; clear hb; obtain ⟨g0, g1, g2, g3, g4, g5⟩ := AW.out.cells) | (go_at_call 30; (with_reducible refine (aw_trueR _ (by first | exact AW.out | exact AW.out.alloc _)).mono ?_); rintro e wn ⟨rfl, hb⟩; have AW1 := Lib.hid ((by first | exact AW.out | exact AW.out.alloc _ : Aw w _ _ _ _).below hb); clear AW; have AW := AW1; clear AW1; clear hb; obtain ⟨g0, g1, g2, g3, g4, g5⟩ := AW.out.cells) | (go_at_call 30; (with_reducible refine (aw_trueZ _ (by first | exact AW.out | exact AW.out.alloc _)).mono ?_); rintro e wn ⟨rfl, hb⟩; have AW1 := Lib.hid ((by first | exact AW.out | exact AW.out.alloc _ : Aw w _ _ _ _).below hb); clear AW; have AW := AW1; clear AW1; clear hb; obtain ⟨g0, g1, g2, g3, g4, g5⟩ := AW.out.cells) | (go_at_call 19; (with_reducible refine (aw_textZ _ (by first | exact AW.out | exact AW.out.alloc _) (AW.out.tabs HT.out)).mono ?_); rintro e wn ⟨rfl, hb⟩; have AW1 := Lib.hid ((by first | exact AW.out | exact AW.out.alloc _ : Aw w _ _ _ _).below hb); clear AW; have AW := AW1; clear AW1; clear hb; obtain ⟨g0, g1, g2, g3, g4, g5⟩ := AW.out.cells) | (go_at_call 19; (with_reducible refine (aw_textR _ (by first | exact AW.out | exact AW.out.alloc _) (AW.out.tabs HT.out)).mono ?_); rintro e wn ⟨rfl, hb⟩; have AW1 := Lib.hid ((by first | exact AW.out | exact AW.out.alloc _ : Aw w _ _ _ _).below hb); clear AW; have AW := AW1; clear AW1; clear hb; obtain ⟨g0, g1, g2, g3, g4, g5⟩ := AW.out.cells) | (go_at_call 21; (with_reducible refine (aw_lessR _ (by first | exact AW.out | exact AW.out.alloc _)).mono ?_); rintro e wn ⟨rfl, hb⟩; have AW1 := Lib.hid ((by first | exact AW.out | exact AW.out.alloc _ : Aw w _ _ _ _).below hb); clear AW; have AW := AW1; clear AW1; clear hb; obtain ⟨g0, g1, g2, g3, g4, g5⟩ := AW.out.cells) | (go_at_call 21; (with_reducible refine (aw_lessT _ (by first | exact AW.out | exact AW.out.alloc _)).mono ?_); rintro e wn ⟨rfl, hb⟩; have AW1 := Lib.hid ((by first | exact AW.out | exact AW.out.alloc _ : Aw w _ _ _ _).below hb); clear AW; have AW := AW1; clear AW1; clear hb; obtain ⟨g0, g1, g2, g3, g4, g5⟩ := AW.out.cells) | (go_at_call 32; (with_reducible refine (aw_sameZ _ (by first | exact AW.out | exact AW.out.alloc _)).mono ?_); rintro e wn ⟨rfl, hb⟩; have AW1 := Lib.hid ((by first | exact AW.out | exact AW.out.alloc _ : Aw w _ _ _ _).below hb); clear AW; have AW := AW1; clear AW1; clear hb; obtain ⟨g0, g1, g2, g3, g4, g5⟩ := AW.out.cells) | (go_at_call 32; (with_reducible refine (aw_sameN _ (by first | exact AW.out | exact AW.out.alloc _)).mono ?_); rintro e wn ⟨rfl, hb⟩; have AW1 := Lib.hid ((by first | exact AW.out | exact AW.out.alloc _ : Aw w _ _ _ _).below hb); clear AW; have AW := AW1; clear AW1; clear hb; obtain ⟨g0, g1, g2, g3, g4, g5⟩ := AW.out.cells) | (go_at_call 38; (with_reducible refine (aw_num _ (by first | exact AW.out | exact AW.out.alloc _) _).mono ?_); rintro e wn ⟨rfl, hb⟩; have AW1 := Lib.hid ((by first | exact AW.out | exact AW.out.alloc _ : Aw w _ _ _ _).below hb); clear AW; have AW := AW1; clear AW1; clear hb; obtain ⟨g0, g1, g2, g3, g4, g5⟩ := AW.out.cells) | (go_at_call 36; (with_reducible refine (aw_bits _ (by first | exact AW.out | exact AW.out.alloc _) _).mono ?_); rintro e wn ⟨rfl, hb⟩; have AW1 := Lib.hid ((by first | exact AW.out | exact AW.out.alloc _ : Aw w _ _ _ _).below hb); clear AW; have AW := AW1; clear AW1; clear hb; obtain ⟨g0, g1, g2, g3, g4, g5⟩ := AW.out.cells) | (go_at_call 39; (with_reducible refine (aw_text _ (by first | exact AW.out | exact AW.out.alloc _) _).mono ?_); rintro e wn ⟨rfl, hb⟩; have AW1 := Lib.hid ((by first | exact AW.out | exact AW.out.alloc _ : Aw w _ _ _ _).below hb); clear AW; have AW := AW1; clear AW1; clear hb; obtain ⟨g0, g1, g2, g3, g4, g5⟩ := AW.out.cells) | (go_at_call 25; (with_reducible refine (aw_Num _ (by first | exact AW.out | exact AW.out.alloc _) _).mono ?_); rintro e wn ⟨rfl, hb⟩; have AW1 := Lib.hid ((by first | exact AW.out | exact AW.out.alloc _ : Aw w _ _ _ _).below hb); clear AW; have AW := AW1; clear AW1; clear hb; obtain ⟨g0, g1, g2, g3, g4, g5⟩ := AW.out.cells))
  go_upto_region 4 with (first | (go_at_call 28; (with_reducible refine (aw_mayR _ (by first | exact AW.out | exact AW.out.alloc _)).mono ?_); rintro e wn ⟨rfl, hb⟩; have AW1 := Lib.hid ((by first | exact AW.out | exact AW.out.alloc _ : Aw w _ _ _ _).below hb); clear AW; have AW := AW1; clear AW1; clear hb; obtain ⟨g0, g1, g2, g3, g4, g5⟩ := AW.out.cells) | (go_at_call 28; (with_reducible refine (aw_mayN _ (by first | exact AW.out | exact AW.out.alloc _)).mono ?_); rintro e wn ⟨rfl, hb⟩; have AW1 := Lib.hid ((by first | exact AW.out | exact AW.out.alloc _ : Aw w _ _ _ _).below hb); clear AW; have AW := AW1; clear AW1; clear hb; obtain ⟨g0, g1, g2, g3, g4, g5⟩ := AW.out.cells) | (go_at_call 30; (with_reducible refine (aw_trueR _ (by first | exact AW.out | exact AW.out.alloc _)).mono ?_); rintro e wn ⟨rfl, hb⟩; have AW1 := Lib.hid ((by first | exact AW.out | exact AW.out.alloc _ : Aw w _ _ _ _).below hb); clear AW; have AW := AW1; clear AW1; clear hb; obtain ⟨g0, g1, g2, g3, g4, g5⟩ := AW.out.cells) | (go_at_call 30; (with_reducible refine (aw_trueZ _ (by first | exact AW.out | exact AW.out.alloc _)).mono ?_); rintro e wn ⟨rfl, hb⟩; have AW1 := Lib.hid ((by first | exact AW.out | exact AW.out.alloc _ : Aw w _ _ _ _).below hb); clear AW; have AW := AW1; clear AW1; clear hb; obtain ⟨g0, g1, g2, g3, g4, g5⟩ := AW.out.cells) | (go_at_call 19; (with_reducible refine (aw_textZ _ (by first | exact AW.out | exact AW.out.alloc _) (AW.out.tabs HT.out)).mono ?_); rintro e wn ⟨rfl, hb⟩; have AW1 := Lib.hid ((by first | exact AW.out | exact AW.out.alloc _ : Aw w _ _ _ _).below hb); clear AW; have AW := AW1; clear AW1; clear hb; obtain ⟨g0, g1, g2, g3, g4, g5⟩ := AW.out.cells) | (go_at_call 19; (with_reducible refine (aw_textR _ (by first | exact AW.out | exact AW.out.alloc _) (AW.out.tabs HT.out)).mono ?_); rintro e wn ⟨rfl, hb⟩; have AW1 := Lib.hid ((by first | exact AW.out | exact AW.out.alloc _ : Aw w _ _ _ _).below hb); clear AW; have AW := AW1; clear AW1; clear hb; obtain ⟨g0, g1, g2, g3, g4, g5⟩ := AW.out.cells) | (go_at_call 21; (with_reducible refine (aw_lessR _ (by first | exact AW.out | exact AW.out.alloc _)).mono ?_); rintro e wn ⟨rfl, hb⟩; have AW1 := Lib.hid ((by first | exact AW.out | exact AW.out.alloc _ : Aw w _ _ _ _).below hb); clear AW; have AW := AW1; clear AW1; clear hb; obtain ⟨g0, g1, g2, g3, g4, g5⟩ := AW.out.cells) | (go_at_call 21; (with_reducible refine (aw_lessT _ (by first | exact AW.out | exact AW.out.alloc _)).mono ?_); rintro e wn ⟨rfl, hb⟩; have AW1 := Lib.hid ((by first | exact AW.out | exact AW.out.alloc _ : Aw w _ _ _ _).below hb); clear AW; have AW := AW1; clear AW1; clear hb; obtain ⟨g0, g1, g2, g3, g4, g5⟩ := AW.out.cells) | (go_at_call 32; (with_reducible refine (aw_sameZ _ (by first | exact AW.out | exact AW.out.alloc _)).mono ?_); rintro e wn ⟨rfl, hb⟩; have AW1 := Lib.hid ((by first | exact AW.out | exact AW.out.alloc _ : Aw w _ _ _ _).below hb); clear AW; have AW := AW1; clear AW1; clear hb; obtain ⟨g0, g1, g2, g3, g4, g5⟩ := AW.out.cells) | (go_at_call 32; (with_reducible refine (aw_sameN _ (by first | exact AW.out | exact AW.out.alloc _)).mono ?_); rintro e wn ⟨rfl, hb⟩; have AW1 := Lib.hid ((by first | exact AW.out | exact AW.out.alloc _ : Aw w _ _ _ _).below hb); clear AW; have AW := AW1; clear AW1; clear hb; obtain ⟨g0, g1, g2, g3, g4, g5⟩ := AW.out.cells) | (go_at_call 38; (with_reducible refine (aw_num _ (by first | exact AW.out | exact AW.out.alloc _) _).mono ?_); rintro e wn ⟨rfl, hb⟩; have AW1 := Lib.hid ((by first | exact AW.out | exact AW.out.alloc _ : Aw w _ _ _ _).below hb); clear AW; have AW := AW1; clear AW1; clear hb; obtain ⟨g0, g1, g2, g3, g4, g5⟩ := AW.out.cells) | (go_at_call 36; (with_reducible refine (aw_bits _ (by first | exact AW.out | exact AW.out.alloc _) _).mono ?_); rintro e wn ⟨rfl, hb⟩; have AW1 := Lib.hid ((by first | exact AW.out | exact AW.out.alloc _ : Aw w _ _ _ _).below hb); clear AW; have AW := AW1; clear AW1; clear hb; obtain ⟨g0, g1, g2, g3, g4, g5⟩ := AW.out.cells) | (go_at_call 39; (with_reducible refine (aw_text _ (by first | exact AW.out | exact AW.out.alloc _) _).mono ?_); rintro e wn ⟨rfl, hb⟩; have AW1 := Lib.hid ((by first | exact AW.out | exact AW.out.alloc _ : Aw w _ _ _ _).below hb); clear AW; have AW := AW1; clear AW1; clear hb; obtain ⟨g0, g1, g2, g3, g4, g5⟩ := AW.out.cells) | (go_at_call 25; (with_reducible refine (aw_Num _ (by first | exact AW.out | exact AW.out.alloc _) _).mono ?_); rintro e wn ⟨rfl, hb⟩; have AW1 := Lib.hid ((by first | exact AW.out | exact AW.out.alloc _ : Aw w _ _ _ _).below hb); clear AW; have AW := AW1; clear AW1; clear hb; obtain ⟨g0, g1, g2, g3, g4, g5⟩ := AW.out.cells))
  go_upto_region 5 with (first | (go_at_call 28; (with_reducible refine (aw_mayR _ (by first | exact AW.out | exact AW.out.alloc _)).mono ?_); rintro e wn ⟨rfl, hb⟩; have AW1 := Lib.hid ((by first | exact AW.out | exact AW.out.alloc _ : Aw w _ _ _ _).below hb); clear AW; have AW := AW1; clear AW1; clear hb; obtain ⟨g0, g1, g2, g3, g4, g5⟩ := AW.out.cells) | (go_at_call 28; (with_reducible refine (aw_mayN _ (by first | exact AW.out | exact AW.out.alloc _)).mono ?_); rintro e wn ⟨rfl, hb⟩; have AW1 := Lib.hid ((by first | exact AW.out | exact AW.out.alloc _ : Aw w _ _ _ _).below hb); clear AW; have AW := AW1; clear AW1; clear hb; obtain ⟨g0, g1, g2, g3, g4, g5⟩ := AW.out.cells) | (go_at_call 30; (with_reducible refine (aw_trueR _ (by first | exact AW.out | exact AW.out.alloc _)).mono ?_); rintro e wn ⟨rfl, hb⟩; have AW1 := Lib.hid ((by first | exact AW.out | exact AW.out.alloc _ : Aw w _ _ _ _).below hb); clear AW; have AW := AW1; clear AW1; clear hb; obtain ⟨g0, g1, g2, g3, g4, g5⟩ := AW.out.cells) | (go_at_call 30; (with_reducible refine (aw_trueZ _ (by first | exact AW.out | exact AW.out.alloc _)).mono ?_); rintro e wn ⟨rfl, hb⟩; have AW1 := Lib.hid ((by first | exact AW.out | exact AW.out.alloc _ : Aw w _ _ _ _).below hb); clear AW; have AW := AW1; clear AW1; clear hb; obtain ⟨g0, g1, g2, g3, g4, g5⟩ := AW.out.cells) | (go_at_call 19; (with_reducible refine (aw_textZ _ (by first | exact AW.out | exact AW.out.alloc _) (AW.out.tabs HT.out)).mono ?_); rintro e wn ⟨rfl, hb⟩; have AW1 := Lib.hid ((by first | exact AW.out | exact AW.out.alloc _ : Aw w _ _ _ _).below hb); clear AW; have AW := AW1; clear AW1; clear hb; obtain ⟨g0, g1, g2, g3, g4, g5⟩ := AW.out.cells) | (go_at_call 19; (with_reducible refine (aw_textR _ (by first | exact AW.out | exact AW.out.alloc _) (AW.out.tabs HT.out)).mono ?_); rintro e wn ⟨rfl, hb⟩; have AW1 := Lib.hid ((by first | exact AW.out | exact AW.out.alloc _ : Aw w _ _ _ _).below hb); clear AW; have AW := AW1; clear AW1; clear hb; obtain ⟨g0, g1, g2, g3, g4, g5⟩ := AW.out.cells) | (go_at_call 21; (with_reducible refine (aw_lessR _ (by first | exact AW.out | exact AW.out.alloc _)).mono ?_); rintro e wn ⟨rfl, hb⟩; have AW1 := Lib.hid ((by first | exact AW.out | exact AW.out.alloc _ : Aw w _ _ _ _).below hb); clear AW; have AW := AW1; clear AW1; clear hb; obtain ⟨g0, g1, g2, g3, g4, g5⟩ := AW.out.cells) | (go_at_call 21; (with_reducible refine (aw_lessT _ (by first | exact AW.out | exact AW.out.alloc _)).mono ?_); rintro e wn ⟨rfl, hb⟩; have AW1 := Lib.hid ((by first | exact AW.out | exact AW.out.alloc _ : Aw w _ _ _ _).below hb); clear AW; have AW := AW1; clear AW1; clear hb; obtain ⟨g0, g1, g2, g3, g4, g5⟩ := AW.out.cells) | (go_at_call 32; (with_reducible refine (aw_sameZ _ (by first | exact AW.out | exact AW.out.alloc _)).mono ?_); rintro e wn ⟨rfl, hb⟩; have AW1 := Lib.hid ((by first | exact AW.out | exact AW.out.alloc _ : Aw w _ _ _ _).below hb); clear AW; have AW := AW1; clear AW1; clear hb; obtain ⟨g0, g1, g2, g3, g4, g5⟩ := AW.out.cells) | (go_at_call 32; (with_reducible refine (aw_sameN _ (by first | exact AW.out | exact AW.out.alloc _)).mono ?_); rintro e wn ⟨rfl, hb⟩; have AW1 := Lib.hid ((by first | exact AW.out | exact AW.out.alloc _ : Aw w _ _ _ _).below hb); clear AW; have AW := AW1; clear AW1; clear hb; obtain ⟨g0, g1, g2, g3, g4, g5⟩ := AW.out.cells) | (go_at_call 38; (with_reducible refine (aw_num _ (by first | exact AW.out | exact AW.out.alloc _) _).mono ?_); rintro e wn ⟨rfl, hb⟩; have AW1 := Lib.hid ((by first | exact AW.out | exact AW.out.alloc _ : Aw w _ _ _ _).below hb); clear AW; have AW := AW1; clear AW1; clear hb; obtain ⟨g0, g1, g2, g3, g4, g5⟩ := AW.out.cells) | (go_at_call 36; (with_reducible refine (aw_bits _ (by first | exact AW.out | exact AW.out.alloc _) _).mono ?_); rintro e wn ⟨rfl, hb⟩; have AW1 := Lib.hid ((by first | exact AW.out | exact AW.out.alloc _ : Aw w _ _ _ _).below hb); clear AW; have AW := AW1; clear AW1; clear hb; obtain ⟨g0, g1, g2, g3, g4, g5⟩ := AW.out.cells) | (go_at_call 39; (with_reducible refine (aw_text _ (by first | exact AW.out | exact AW.out.alloc _) _).mono ?_); rintro e wn ⟨rfl, hb⟩; have AW1 := Lib.hid ((by first | exact AW.out | exact AW.out.alloc _ : Aw w _ _ _ _).below hb); clear AW; have AW := AW1; clear AW1; clear hb; obtain ⟨g0, g1, g2, g3, g4, g5⟩ := AW.out.cells) | (go_at_call 25; (with_reducible refine (aw_Num _ (by first | exact AW.out | exact AW.out.alloc _) _).mono ?_); rintro e wn ⟨rfl, hb⟩; have AW1 := Lib.hid ((by first | exact AW.out | exact AW.out.alloc _ : Aw w _ _ _ _).below hb); clear AW; have AW := AW1; clear AW1; clear hb; obtain ⟨g0, g1, g2, g3, g4, g5⟩ := AW.out.cells))
  go_upto_region 6 with (first | (go_at_call 28; (with_reducible refine (aw_mayR _ (by first | exact AW.out | exact AW.out.alloc _)).mono ?_); rintro e wn ⟨rfl, hb⟩; have AW1 := Lib.hid ((by first | exact AW.out | exact AW.out.alloc _ : Aw w _ _ _ _).below hb); clear AW; have AW := AW1; clear AW1; clear hb; obtain ⟨g0, g1, g2, g3, g4, g5⟩ := AW.out.cells) | (go_at_call 28; (with_reducible refine (aw_mayN _ (by first | exact AW.out | exact AW.out.alloc _)).mono ?_); rintro e wn ⟨rfl, hb⟩; have AW1 := Lib.hid ((by first | exact AW.out | exact AW.out.alloc _ : Aw w _ _ _ _).below hb); clear AW; have AW := AW1; clear AW1; clear hb; obtain ⟨g0, g1, g2, g3, g4, g5⟩ := AW.out.cells) | (go_at_call 30; (with_reducible refine (aw_trueR _ (by first | exact AW.out | exact AW.out.alloc _)).mono ?_); rintro e wn ⟨rfl, hb⟩; have AW1 := Lib.hid ((by first | exact AW.out | exact AW.out.alloc _ : Aw w _ _ _ _).below hb); clear AW; have AW := AW1; clear AW1; clear hb; obtain ⟨g0, g1, g2, g3, g4, g5⟩ := AW.out.cells) | (go_at_call 30; (with_reducible refine (aw_trueZ _ (by first | exact AW.out | exact AW.out.alloc _)).mono ?_); rintro e wn ⟨rfl, hb⟩; have AW1 := Lib.hid ((by first | exact AW.out | exact AW.out.alloc _ : Aw w _ _ _ _).below hb); clear AW; have AW := AW1; clear AW1; clear hb; obtain ⟨g0, g1, g2, g3, g4, g5⟩ := AW.out.cells) | (go_at_call 19; (with_reducible refine (aw_textZ _ (by first | exact AW.out | exact AW.out.alloc _) (AW.out.tabs HT.out)).mono ?_); rintro e wn ⟨rfl, hb⟩; have AW1 := Lib.hid ((by first | exact AW.out | exact AW.out.alloc _ : Aw w _ _ _ _).below hb); clear AW; have AW := AW1; clear AW1; clear hb; obtain ⟨g0, g1, g2, g3, g4, g5⟩ := AW.out.cells) | (go_at_call 19; (with_reducible refine (aw_textR _ (by first | exact AW.out | exact AW.out.alloc _) (AW.out.tabs HT.out)).mono ?_); rintro e wn ⟨rfl, hb⟩; have AW1 := Lib.hid ((by first | exact AW.out | exact AW.out.alloc _ : Aw w _ _ _ _).below hb); clear AW; have AW := AW1; clear AW1; clear hb; obtain ⟨g0, g1, g2, g3, g4, g5⟩ := AW.out.cells) | (go_at_call 21; (with_reducible refine (aw_lessR _ (by first | exact AW.out | exact AW.out.alloc _)).mono ?_); rintro e wn ⟨rfl, hb⟩; have AW1 := Lib.hid ((by first | exact AW.out | exact AW.out.alloc _ : Aw w _ _ _ _).below hb); clear AW; have AW := AW1; clear AW1; clear hb; obtain ⟨g0, g1, g2, g3, g4, g5⟩ := AW.out.cells) | (go_at_call 21; (with_reducible refine (aw_lessT _ (by first | exact AW.out | exact AW.out.alloc _)).mono ?_); rintro e wn ⟨rfl, hb⟩; have AW1 := Lib.hid ((by first | exact AW.out | exact AW.out.alloc _ : Aw w _ _ _ _).below hb); clear AW; have AW := AW1; clear AW1; clear hb; obtain ⟨g0, g1, g2, g3, g4, g5⟩ := AW.out.cells) | (go_at_call 32; (with_reducible refine (aw_sameZ _ (by first | exact AW.out | exact AW.out.alloc _)).mono ?_); rintro e wn ⟨rfl, hb⟩; have AW1 := Lib.hid ((by first | exact AW.out | exact AW.out.alloc _ : Aw w _ _ _ _).below hb); clear AW; have AW := AW1; clear AW1; clear hb; obtain ⟨g0, g1, g2, g3, g4, g5⟩ := AW.out.cells) | (go_at_call 32; (with_reducible refine (aw_sameN _ (by first | exact AW.out | exact AW.out.alloc _)).mono ?_); rintro e wn ⟨rfl, hb⟩; have AW1 := Lib.hid ((by first | exact AW.out | exact AW.out.alloc _ : Aw w _ _ _ _).below hb); clear AW; have AW := AW1; clear AW1; clear hb; obtain ⟨g0, g1, g2, g3, g4, g5⟩ := AW.out.cells) | (go_at_call 38; (with_reducible refine (aw_num _ (by first | exact AW.out | exact AW.out.alloc _) _).mono ?_); rintro e wn ⟨rfl, hb⟩; have AW1 := Lib.hid ((by first | exact AW.out | exact AW.out.alloc _ : Aw w _ _ _ _).below hb); clear AW; have AW := AW1; clear AW1; clear hb; obtain ⟨g0, g1, g2, g3, g4, g5⟩ := AW.out.cells) | (go_at_call 36; (with_reducible refine (aw_bits _ (by first | exact AW.out | exact AW.out.alloc _) _).mono ?_); rintro e wn ⟨rfl, hb⟩; have AW1 := Lib.hid ((by first | exact AW.out | exact AW.out.alloc _ : Aw w _ _ _ _).below hb); clear AW; have AW := AW1; clear AW1; clear hb; obtain ⟨g0, g1, g2, g3, g4, g5⟩ := AW.out.cells) | (go_at_call 39; (with_reducible refine (aw_text _ (by first | exact AW.out | exact AW.out.alloc _) _).mono ?_); rintro e wn ⟨rfl, hb⟩; have AW1 := Lib.hid ((by first | exact AW.out | exact AW.out.alloc _ : Aw w _ _ _ _).below hb); clear AW; have AW := AW1; clear AW1; clear hb; obtain ⟨g0, g1, g2, g3, g4, g5⟩ := AW.out.cells) | (go_at_call 25; (with_reducible refine (aw_Num _ (by first | exact AW.out | exact AW.out.alloc _) _).mono ?_); rintro e wn ⟨rfl, hb⟩; have AW1 := Lib.hid ((by first | exact AW.out | exact AW.out.alloc _ : Aw w _ _ _ _).below hb); clear AW; have AW := AW1; clear AW1; clear hb; obtain ⟨g0, g1, g2, g3, g4, g5⟩ := AW.out.cells))
  go_upto_region 7 with (first | (go_at_call 23; (with_reducible refine (aw_getB _ (by first | exact AW.out | exact AW.out.alloc _)).mono ?_); rintro e wn ⟨⟨XA, xc, XB, xd, rfl⟩, hb⟩; have AW1 := Lib.hid ((by first | exact AW.out | exact AW.out.alloc _ : Aw w _ _ _ _).below hb); clear AW; have AW := AW1; clear AW1; clear hb; obtain ⟨g0, g1, g2, g3, g4, g5⟩ := AW.out.cells))
  have CB := Lib.hid (blk_new wn (.cells #[.int .i64 4, .int .i64 0, .int .u64 0, .string ⟨#[120]⟩, .slice XA 0 xc, .slice XB 0 xd] 26))
  have AW1 := Lib.hid (AW.out.alloc (.cells #[.int .i64 4, .int .i64 0, .int .u64 0, .string ⟨#[120]⟩, .slice XA 0 xc, .slice XB 0 xd] 26)); clear AW; have AW := AW1; clear AW1; generalize wn.alloc (.cells #[.int .i64 4, .int .i64 0, .int .u64 0, .string ⟨#[120]⟩, .slice XA 0 xc, .slice XB 0 xd] 26) = W7 at AW CB ⊢; generalize wn.heap.size = gc at CB ⊢; clear g0 g1 g2 g3 g4 g5; obtain ⟨g0, g1, g2, g3, g4, g5⟩ := AW.out.cells
  go_upto_region 8 with (first | (go_at_call 23; (with_reducible refine (aw_getC _ (by first | exact AW.out | exact AW.out.alloc _)).mono ?_); rintro e wn ⟨⟨A_, c_, B_, d_, rfl⟩, hb⟩; have AW1 := Lib.hid ((by first | exact AW.out | exact AW.out.alloc _ : Aw w _ _ _ _).below hb); clear AW; have AW := AW1; clear AW1; (have CB1 := Lib.hid (blk_below (by first | exact CB.out | exact blk_alloc CB.out _ | exact blk_alloc (blk_alloc CB.out _) _) hb); clear CB; have CB := CB1; clear CB1); clear hb; obtain ⟨g0, g1, g2, g3, g4, g5⟩ := AW.out.cells; (obtain ⟨k0, k1, k2, k3, k4, k5⟩ := six CB.out)))
  have CB1 := Lib.hid (blk_alloc CB.out (.cells #[.int .i64 0, .int .i64 0, .int .u64 0, .string ⟨#[]⟩, .slice A_ 0 c_, .slice B_ 0 d_] 26)); clear CB; have CB := CB1; clear CB1
  have AW1 := Lib.hid (AW.out.alloc (.cells #[.int .i64 0, .int .i64 0, .int .u64 0, .string ⟨#[]⟩, .slice A_ 0 c_, .slice B_ 0 d_] 26)); clear AW; have AW := AW1; clear AW1; generalize wn.alloc (.cells #[.int .i64 0, .int .i64 0, .int .u64 0, .string ⟨#[]⟩, .slice A_ 0 c_, .slice B_ 0 d_] 26) = W8 at AW CB ⊢; clear g0 g1 g2 g3 g4 g5; obtain ⟨g0, g1, g2, g3, g4, g5⟩ := AW.out.cells
  go_upto_region 9 with (first | (go_at_call 23; (with_reducible refine (aw_getAB _ (by first | exact AW.out | exact AW.out.alloc _)).mono ?_); rintro e wn ⟨⟨A_, c_, B_, d_, rfl⟩, hb⟩; have AW1 := Lib.hid ((by first | exact AW.out | exact AW.out.alloc _ : Aw w _ _ _ _).below hb); clear AW; have AW := AW1; clear AW1; (have CB1 := Lib.hid (blk_below (by first | exact CB.out | exact blk_alloc CB.out _ | exact blk_alloc (blk_alloc CB.out _) _) hb); clear CB; have CB := CB1; clear CB1); clear hb; obtain ⟨g0, g1, g2, g3, g4, g5⟩ := AW.out.cells; (obtain ⟨k0, k1, k2, k3, k4, k5⟩ := six CB.out)))
  have CB1 := Lib.hid (blk_alloc CB.out (.cells #[.int .i64 0, .int .i64 0, .int .u64 0, .string ⟨#[]⟩, .slice A_ 0 c_, .slice B_ 0 d_] 26)); clear CB; have CB := CB1; clear CB1
  have AW1 := Lib.hid (AW.out.alloc (.cells #[.int .i64 0, .int .i64 0, .int .u64 0, .string ⟨#[]⟩, .slice A_ 0 c_, .slice B_ 0 d_] 26)); clear AW; have AW := AW1; clear AW1; generalize wn.alloc (.cells #[.int .i64 0, .int .i64 0, .int .u64 0, .string ⟨#[]⟩, .slice A_ 0 c_, .slice B_ 0 d_] 26) = W9 at AW CB ⊢; clear g0 g1 g2 g3 g4 g5; obtain ⟨g0, g1, g2, g3, g4, g5⟩ := AW.out.cells
  have AW1 := Lib.hid (AW.out.below (below_drew (Below.refl W9.heap.size W9))); clear AW; have AW := AW1; clear AW1
  have CB1 := Lib.hid (blk_drew CB.out); clear CB; have CB := CB1; clear CB1
  clear g0 g1 g2 g3 g4 g5
  obtain ⟨g0, g1, g2, g3, g4, g5⟩ := AW.out.cells
  obtain ⟨k0, k1, k2, k3, k4, k5⟩ := six CB.out
  simp only [List.append_eq, List.cons_append, List.nil_append]
  have AWo := AW.out
  have CBo := CB.out
  clear AW CB
  go_region_held3 (fun w' => Aw w w' w.heap.size w2.heap.size (w2.heap.size + 1) ∧ w'.heap[gc]? = some (.cells #[.int .i64 4, .int .i64 0, .int .u64 0, .string ⟨#[120]⟩, .slice XA 0 xc, .slice XB 0 xd] 26 (0, 0)) ∧ w'.cell? ⟨(w2.heap.size + 1), 0, none⟩ = some (.int .i64 6) ∧ w'.cell? ⟨(w2.heap.size + 1), 1, none⟩ = some (.int .i64 0) ∧ w'.cell? ⟨(w2.heap.size + 1), 2, none⟩ = some (.int .u64 0) ∧ w'.cell? ⟨(w2.heap.size + 1), 3, none⟩ = some (.string ⟨#[]⟩) ∧ w'.cell? ⟨(w2.heap.size + 1), 4, none⟩ = some (.slice (some ⟨w2.heap.size, 0, none⟩) 2 2) ∧ w'.cell? ⟨(w2.heap.size + 1), 5, none⟩ = some (.slice (some ⟨w.heap.size, 0, none⟩) 2 2) ∧ w'.cell? ⟨gc, 0, none⟩ = some (.int .i64 4) ∧ w'.cell? ⟨gc, 1, none⟩ = some (.int .i64 0) ∧ w'.cell? ⟨gc, 2, none⟩ = some (.int .u64 0) ∧ w'.cell? ⟨gc, 3, none⟩ = some (.string ⟨#[120]⟩) ∧ w'.cell? ⟨gc, 4, none⟩ = some (.slice XA 0 xc) ∧ w'.cell? ⟨gc, 5, none⟩ = some (.slice XB 0 xd)) (first | exact ⟨AWo, CBo, g0, g1, g2, g3, g4, g5, k0, k1, k2, k3, k4, k5⟩ | exact keepS (by first | assumption | exact And.left (by assumption)) (by first | assumption | exact And.left (And.right (by assumption))) hb | assumption) (first | (go_at_call 28; (with_reducible refine (aw_mayR _ (by first | assumption | exact And.left (by assumption))).mono ?_); rintro e wn ⟨rfl, hb⟩) | (go_at_call 28; (with_reducible refine (aw_mayN _ (by first | assumption | exact And.left (by assumption))).mono ?_); rintro e wn ⟨rfl, hb⟩) | (go_at_call 30; (with_reducible refine (aw_trueR _ (by first | assumption | exact And.left (by assumption))).mono ?_); rintro e wn ⟨rfl, hb⟩) | (go_at_call 30; (with_reducible refine (aw_trueZ _ (by first | assumption | exact And.left (by assumption))).mono ?_); rintro e wn ⟨rfl, hb⟩) | (go_at_call 32; (with_reducible refine (aw_sameZ _ (by first | assumption | exact And.left (by assumption))).mono ?_); rintro e wn ⟨rfl, hb⟩) | (go_at_call 32; (with_reducible refine (aw_sameN _ (by first | assumption | exact And.left (by assumption))).mono ?_); rintro e wn ⟨rfl, hb⟩) | (go_at_call 38; (with_reducible refine (aw_num _ (by first | assumption | exact And.left (by assumption)) _).mono ?_); rintro e wn ⟨rfl, hb⟩) | (go_at_call 36; (with_reducible refine (aw_bits _ (by first | assumption | exact And.left (by assumption)) _).mono ?_); rintro e wn ⟨rfl, hb⟩) | (go_at_call 39; (with_reducible refine (aw_text _ (by first | assumption | exact And.left (by assumption)) _).mono ?_); rintro e wn ⟨rfl, hb⟩) | (go_at_call 25; (with_reducible refine (aw_Num _ (by first | assumption | exact And.left (by assumption)) _).mono ?_); rintro e wn ⟨rfl, hb⟩) | (go_at_call 26; (with_reducible refine (aw_sameV _ (by first | assumption | exact And.left (by assumption)) _ _ _ _).mono ?_); rintro e wn ⟨rfl, hb⟩))
  all_goals (go_wp2; go_ret; exact ⟨rfl, Aw.B (by first | assumption | exact And.left (by assumption))⟩)
end Go.Proofs.YtepolmajebdphaaDoor.Values
