/- stolelaw18.awake, walked. · stolelaw18.awake, walked: the walk. -/
import Derived.Test.YtoocfodefbechaaGreatDoorFns
import Derived.Test.YtoocfodefbechaaGreatDoorC3
import Derived.Test.YtoocfodefbechaaGreatDoorSv
namespace Go.Proofs.YtoocfodefbechaaGreatDoor.Fns
open Go.RowKit Go.Proofs.YtoocfodefbechaaGreatDoor.Q Go.Proofs.YtoocfodefbechaaGreatDoor.Real Go.Proofs.YtoocfodefbechaaGreatDoor.RealPure Go.Proofs.YtoocfodefbechaaGreatDoor.Values Go.Proofs.YtoocfodefbechaaGreatDoorW.PrintWords Go.Proofs.YtoocfodefbechaaGreatDoorW.PrintLast Go.Proofs.YtoocfodefbechaaGreatDoorW.PrintMore
set_option linter.unusedSimpArgs false
set_option linter.unusedVariables false
set_option maxRecDepth 100000

def bitsV (i : Int) : V := ⟨3, 0, i, ⟨#[]⟩, [], []⟩
def listV : V := ⟨5, 0, 0, ⟨#[]⟩, [numV 7, textV ⟨#[120]⟩], []⟩
theorem num18 (i : Int) (w : World) : Calls Tryz.prog 30 #[.int .i64 i] w fun e w' => e = .returned (.agg #[.int .i64 2, .int .i64 i, .int .u64 0, .string ⟨#[]⟩, .slice none 0 0, .slice none 0 0]) ∧ Below w.heap.size w w' := by
  have hu27 := Tryz.underlying27
  go_enter Tryz.func30, Tryz.ntmps30
  go_wp2
  refine bodyPost_ret (results_cell_row rfl _ _ w.heap.size 27 _ (0, 0) _ rfl (blk_new w _) hu27 rfl (by exact size27)) rfl ?_
  exact ⟨rfl, below_alloc (Below.refl _ _) _⟩
theorem bits18 (i : Int) (w : World) : Calls Tryz.prog 33 #[.int .u64 i] w fun e w' => e = .returned (.agg #[.int .i64 3, .int .i64 0, .int .u64 i, .string ⟨#[]⟩, .slice none 0 0, .slice none 0 0]) ∧ Below w.heap.size w w' := by
  have hu27 := Tryz.underlying27
  go_enter Tryz.func33, Tryz.ntmps33
  go_wp2
  refine bodyPost_ret (results_cell_row rfl _ _ w.heap.size 27 _ (0, 0) _ rfl (blk_new w _) hu27 rfl (by exact size27)) rfl ?_
  exact ⟨rfl, below_alloc (Below.refl _ _) _⟩
theorem text18 (s : ByteArray) (w : World) : Calls Tryz.prog 31 #[.string s] w fun e w' => e = .returned (.agg #[.int .i64 4, .int .i64 0, .int .u64 0, .string s, .slice none 0 0, .slice none 0 0]) ∧ Below w.heap.size w w' := by
  have hu27 := Tryz.underlying27
  go_enter Tryz.func31, Tryz.ntmps31
  go_wp2
  refine bodyPost_ret (results_cell_row rfl _ _ w.heap.size 27 _ (0, 0) _ rfl (blk_new w _) hu27 rfl (by exact size27)) rfl ?_
  exact ⟨rfl, below_alloc (Below.refl _ _) _⟩
theorem truth18 (w : World) : Calls Tryz.prog 32 #[.bool true] w fun e w' => e = .returned (.agg #[.int .i64 1, .int .i64 1, .int .u64 0, .string ⟨#[]⟩, .slice none 0 0, .slice none 0 0]) ∧ Below w.heap.size w w' := by
  have hu27 := Tryz.underlying27
  go_enter Tryz.func32, Tryz.ntmps32
  go_wp2
  refine bodyPost_ret (results_cell_row rfl _ _ w.heap.size 27 _ (0, 0) _ rfl (blk_new w _) hu27 rfl (by exact size27)) rfl ?_
  exact ⟨rfl, below_alloc (Below.refl _ _) _⟩
structure Aw8 (w W : World) (gi gl : Nat) : Prop where
  I : W.heap[gi]? = some (.cells #[.int .i64 2, .int .i64 7, .int .u64 0, .string ⟨#[]⟩, .slice none 0 0, .slice none 0 0, .int .i64 4, .int .i64 0, .int .u64 0, .string ⟨#[120]⟩, .slice none 0 0, .slice none 0 0] 27 (0, 0))
  L : W.heap[gl]? = some (.cells #[.int .i64 5, .int .i64 0, .int .u64 0, .string ⟨#[]⟩, .slice (some ⟨gi, 0, none⟩) 2 2, .slice none 0 0] 27 (0, 0))
  B : Below w.heap.size w W
theorem Aw8.below {w W W1 : World} {gi gl : Nat} (h : Aw8 w W gi gl) (hb : Below W.heap.size W W1) : Aw8 w W1 gi gl := ⟨blk_below h.I hb, blk_below h.L hb, below_step h.B hb⟩
theorem Aw8.alloc {w W : World} {gi gl : Nat} (h : Aw8 w W gi gl) (o : Obj) : Aw8 w (W.alloc o) gi gl := h.below (below_alloc (Below.refl _ _) o)
theorem Aw8.tabs {w W : World} {gi gl : Nat} (h : Aw8 w W gi gl) (hT : Tabs w) : Tabs W := hT.below h.B
def Leaf (W : World) (g : Nat) (k i u : Int) (s : ByteArray) : Prop := ∃ A c B d, W.heap[g]? = some (.cells #[.int .i64 k, .int .i64 i, .int .u64 u, .string s, .slice A 0 c, .slice B 0 d] 27 (0, 0))
theorem Leaf.below {W W1 : World} {g : Nat} {k i u : Int} {s : ByteArray} (h : Leaf W g k i u s) (hb : Below W.heap.size W W1) : Leaf W1 g k i u s := by
  obtain ⟨A, c, B, d, h⟩ := h
  exact ⟨A, c, B, d, blk_below h hb⟩
theorem leafK (W : World) (x : V) (h4 : x.f4 = []) (h5 : x.f5 = []) : k27.K W x [.int .i64 x.f0, .int .i64 x.f1, .int .u64 x.f2, .string x.f3, .slice none 0 0, .slice none 0 0] := by
  have := K_of (rows_nil W x h4 h5)
  rw [h4, h5] at this
  exact this
theorem Aw8.listK {w W : World} {gi gl : Nat} (h : Aw8 w W gi gl) : k27.K W listV [.int .i64 5, .int .i64 0, .int .u64 0, .string ⟨#[]⟩, .slice (some ⟨gi, 0, none⟩) 2 2, .slice none 0 0] := by
  refine K_of (x := listV) (A4 := some ⟨gi, 0, none⟩) (c4 := 2) (A5 := none) (c5 := 0) ⟨⟨rfl, by decide, fun _ => ⟨⟨gi, 0, none⟩, rfl, fun j p hp => ?_⟩⟩, Nat.le_refl _, Kd.C_nil _ _, Nat.le_refl _⟩
  rcases j with _ | _ | j
  · obtain rfl : numV 7 = p := Option.some.inj hp
    refine ⟨[.int .i64 2, .int .i64 7, .int .u64 0, .string ⟨#[]⟩, .slice none 0 0, .slice none 0 0], rfl, leafK W (numV 7) rfl rfl, fun i u hu => ?_⟩
    rw [Addr.add_lit, blk_cell h.I _]
    rcases i with _ | _ | _ | _ | _ | _ | i <;> first | exact hu | (simp at hu)
  · obtain rfl : textV ⟨#[120]⟩ = p := Option.some.inj hp
    refine ⟨[.int .i64 4, .int .i64 0, .int .u64 0, .string ⟨#[120]⟩, .slice none 0 0, .slice none 0 0], rfl, leafK W (textV ⟨#[120]⟩) rfl rfl, fun i u hu => ?_⟩
    rw [Addr.add_lit, blk_cell h.I _]
    rcases i with _ | _ | _ | _ | _ | _ | i <;> first | exact hu | (simp at hu)
  · exact absurd (show ([] : List V)[j]? = some p from hp) (by simp)
theorem call_lit (nm : ByteArray) (xs : List V) (cs : List Value) (n : Nat) (W : World) (hT : Tabs W) (h : Reps (k27.K W) 6 xs cs) (hl : xs.length < 1000) (hr : xs.all (rngB 8) = true) (R : V × Int) (hR : callR nm xs = R) (h4 : R.1.f4 = []) (h5 : R.1.f5 = []) :
    Calls Tryz.prog 5 #[.string nm, .slice (some ⟨W.heap.size, 0, none⟩) xs.length n] (W.alloc (.cells cs.toArray 27)) fun e w' => (∃ A c B d, e = .returned (.tuple #[.agg #[.int .i64 R.1.f0, .int .i64 R.1.f1, .int .u64 R.1.f2, .string R.1.f3, .slice A 0 c, .slice B 0 d], .int .i64 R.2])) ∧ Below W.heap.size W w' := by
  have hb2 : Below W.heap.size W (W.alloc (.cells cs.toArray 27)) := below_alloc (Below.refl _ _) _
  refine (Call_calls nm xs _ n _ ⟨hT.below hb2, by omega, row_lit W xs cs h (by omega), fun z hz => rng_of 8 z (List.all_eq_true.1 hr z hz)⟩).mono ?_
  rw [hR]
  rintro e w' ⟨v4, v5, rfl, k4, k5, hbb⟩
  obtain ⟨A, c, rfl⟩ := Kd.R_slice k4
  obtain ⟨D, d, rfl⟩ := Kd.R_slice k5
  rw [h4, h5]
  exact ⟨⟨A, c, D, d, rfl⟩, below_step hb2 hbb⟩
theorem r8_2 : callR (⟨#[108, 101, 110]⟩ : ByteArray) [listV] = (numV 2, 0) := by kernel_rfl
theorem aw8_2 {w : World} {gi gl : Nat} (W : World) (h : Aw8 w W gi gl) (hT : Tabs W) : Calls Tryz.prog 5 #[.string ⟨#[108, 101, 110]⟩, .slice (some ⟨W.heap.size, 0, none⟩) 1 1] (W.alloc (.cells #[.int .i64 5, .int .i64 0, .int .u64 0, .string ⟨#[]⟩, .slice (some ⟨gi, 0, none⟩) 2 2, .slice none 0 0] 27)) fun e w' => (∃ A c B d, e = .returned (.tuple #[.agg #[.int .i64 2, .int .i64 2, .int .u64 0, .string ⟨#[]⟩, .slice A 0 c, .slice B 0 d], .int .i64 0])) ∧ Below W.heap.size W w' :=
  call_lit (⟨#[108, 101, 110]⟩ : ByteArray) [listV] [.int .i64 5, .int .i64 0, .int .u64 0, .string ⟨#[]⟩, .slice (some ⟨gi, 0, none⟩) 2 2, .slice none 0 0] 1 W hT (reps1 h.listK) (by decide) (by kernel_rfl) (numV 2, 0) r8_2 rfl rfl
theorem r8_3 : callR (⟨#[105, 110, 100, 101, 120]⟩ : ByteArray) [listV, numV 1] = (textV ⟨#[120]⟩, 0) := by kernel_rfl
theorem r8_4 : callR (⟨#[105, 110, 100, 101, 120]⟩ : ByteArray) [listV, numV 2] = (z27, 1803) := by kernel_rfl
theorem r8_6 : callR (⟨#[101, 113]⟩ : ByteArray) [numV 1] = (z27, 1801) := by kernel_rfl
theorem aw8_6 {w : World} {gi gl : Nat} (W : World) (h : Aw8 w W gi gl) (hT : Tabs W) : Calls Tryz.prog 5 #[.string ⟨#[101, 113]⟩, .slice (some ⟨W.heap.size, 0, none⟩) 1 1] (W.alloc (.cells #[.int .i64 2, .int .i64 1, .int .u64 0, .string ⟨#[]⟩, .slice none 0 0, .slice none 0 0] 27)) fun e w' => (∃ A c B d, e = .returned (.tuple #[.agg #[.int .i64 0, .int .i64 0, .int .u64 0, .string ⟨#[]⟩, .slice A 0 c, .slice B 0 d], .int .i64 1801])) ∧ Below W.heap.size W w' :=
  call_lit (⟨#[101, 113]⟩ : ByteArray) [numV 1] [.int .i64 2, .int .i64 1, .int .u64 0, .string ⟨#[]⟩, .slice none 0 0, .slice none 0 0] 1 W hT (reps1 (leafK W (numV 1) rfl rfl)) (by decide) (by kernel_rfl) (z27, 1801) r8_6 rfl rfl
theorem r8_7 : callR (⟨#[108, 116]⟩ : ByteArray) [numV 1, textV ⟨#[49]⟩] = (z27, 1802) := by kernel_rfl
theorem aw8_7 {w : World} {gi gl : Nat} (W : World) (h : Aw8 w W gi gl) (hT : Tabs W) : Calls Tryz.prog 5 #[.string ⟨#[108, 116]⟩, .slice (some ⟨W.heap.size, 0, none⟩) 2 2] (W.alloc (.cells #[.int .i64 2, .int .i64 1, .int .u64 0, .string ⟨#[]⟩, .slice none 0 0, .slice none 0 0, .int .i64 4, .int .i64 0, .int .u64 0, .string ⟨#[49]⟩, .slice none 0 0, .slice none 0 0] 27)) fun e w' => (∃ A c B d, e = .returned (.tuple #[.agg #[.int .i64 0, .int .i64 0, .int .u64 0, .string ⟨#[]⟩, .slice A 0 c, .slice B 0 d], .int .i64 1802])) ∧ Below W.heap.size W w' :=
  call_lit (⟨#[108, 116]⟩ : ByteArray) [numV 1, textV ⟨#[49]⟩] [.int .i64 2, .int .i64 1, .int .u64 0, .string ⟨#[]⟩, .slice none 0 0, .slice none 0 0, .int .i64 4, .int .i64 0, .int .u64 0, .string ⟨#[49]⟩, .slice none 0 0, .slice none 0 0] 2 W hT (reps2 (leafK W (numV 1) rfl rfl) (leafK W (textV ⟨#[49]⟩) rfl rfl)) (by decide) (by kernel_rfl) (z27, 1802) r8_7 rfl rfl
theorem r8_8 : callR (⟨#[99, 97, 116]⟩ : ByteArray) [numV 1, textV ⟨#[98]⟩, boolV true] = (textV ⟨#[49, 98, 116, 114, 117, 101]⟩, 0) := by kernel_rfl
theorem aw8_8 {w : World} {gi gl : Nat} (W : World) (h : Aw8 w W gi gl) (hT : Tabs W) : Calls Tryz.prog 5 #[.string ⟨#[99, 97, 116]⟩, .slice (some ⟨W.heap.size, 0, none⟩) 3 3] (W.alloc (.cells #[.int .i64 2, .int .i64 1, .int .u64 0, .string ⟨#[]⟩, .slice none 0 0, .slice none 0 0, .int .i64 4, .int .i64 0, .int .u64 0, .string ⟨#[98]⟩, .slice none 0 0, .slice none 0 0, .int .i64 1, .int .i64 1, .int .u64 0, .string ⟨#[]⟩, .slice none 0 0, .slice none 0 0] 27)) fun e w' => (∃ A c B d, e = .returned (.tuple #[.agg #[.int .i64 4, .int .i64 0, .int .u64 0, .string ⟨#[49, 98, 116, 114, 117, 101]⟩, .slice A 0 c, .slice B 0 d], .int .i64 0])) ∧ Below W.heap.size W w' :=
  call_lit (⟨#[99, 97, 116]⟩ : ByteArray) [numV 1, textV ⟨#[98]⟩, boolV true] [.int .i64 2, .int .i64 1, .int .u64 0, .string ⟨#[]⟩, .slice none 0 0, .slice none 0 0, .int .i64 4, .int .i64 0, .int .u64 0, .string ⟨#[98]⟩, .slice none 0 0, .slice none 0 0, .int .i64 1, .int .i64 1, .int .u64 0, .string ⟨#[]⟩, .slice none 0 0, .slice none 0 0] 3 W hT (reps3 (leafK W (numV 1) rfl rfl) (leafK W (textV ⟨#[98]⟩) rfl rfl) (leafK W (boolV true) rfl rfl)) (by decide) (by kernel_rfl) (textV ⟨#[49, 98, 116, 114, 117, 101]⟩, 0) r8_8 rfl rfl
theorem r8_9 : callR (⟨#[111, 114]⟩ : ByteArray) [numV 0, textV ⟨#[]⟩, bitsV 9223372036854775808] = (bitsV 9223372036854775808, 0) := by kernel_rfl
theorem aw8_9 {w : World} {gi gl : Nat} (W : World) (h : Aw8 w W gi gl) (hT : Tabs W) : Calls Tryz.prog 5 #[.string ⟨#[111, 114]⟩, .slice (some ⟨W.heap.size, 0, none⟩) 3 3] (W.alloc (.cells #[.int .i64 2, .int .i64 0, .int .u64 0, .string ⟨#[]⟩, .slice none 0 0, .slice none 0 0, .int .i64 4, .int .i64 0, .int .u64 0, .string ⟨#[]⟩, .slice none 0 0, .slice none 0 0, .int .i64 3, .int .i64 0, .int .u64 9223372036854775808, .string ⟨#[]⟩, .slice none 0 0, .slice none 0 0] 27)) fun e w' => (∃ A c B d, e = .returned (.tuple #[.agg #[.int .i64 3, .int .i64 0, .int .u64 9223372036854775808, .string ⟨#[]⟩, .slice A 0 c, .slice B 0 d], .int .i64 0])) ∧ Below W.heap.size W w' :=
  call_lit (⟨#[111, 114]⟩ : ByteArray) [numV 0, textV ⟨#[]⟩, bitsV 9223372036854775808] [.int .i64 2, .int .i64 0, .int .u64 0, .string ⟨#[]⟩, .slice none 0 0, .slice none 0 0, .int .i64 4, .int .i64 0, .int .u64 0, .string ⟨#[]⟩, .slice none 0 0, .slice none 0 0, .int .i64 3, .int .i64 0, .int .u64 9223372036854775808, .string ⟨#[]⟩, .slice none 0 0, .slice none 0 0] 3 W hT (reps3 (leafK W (numV 0) rfl rfl) (leafK W (textV ⟨#[]⟩) rfl rfl) (leafK W (bitsV 9223372036854775808) rfl rfl)) (by decide) (by kernel_rfl) (bitsV 9223372036854775808, 0) r8_9 rfl rfl
theorem r8_5 : callR (⟨#[102, 111, 111]⟩ : ByteArray) [] = (z27, 1800) := by kernel_rfl
theorem aw8_5 {w : World} {gi gl : Nat} (W : World) (h : Aw8 w W gi gl) (hT : Tabs W) : Calls Tryz.prog 5 #[.string ⟨#[102, 111, 111]⟩, .slice none 0 0] W fun e w' => (∃ A c B d, e = .returned (.tuple #[.agg #[.int .i64 0, .int .i64 0, .int .u64 0, .string ⟨#[]⟩, .slice A 0 c, .slice B 0 d], .int .i64 1800])) ∧ Below W.heap.size W w' := by
  refine (Call_calls (⟨#[102, 111, 111]⟩ : ByteArray) [] none 0 W ⟨hT, by decide, Kd.C_nil _ _, fun z hz => by cases hz⟩).mono ?_
  rw [r8_5]
  rintro e w' ⟨v4, v5, rfl, k4, k5, hbb⟩
  obtain ⟨A, c, rfl⟩ := Kd.R_slice k4
  obtain ⟨D, d, rfl⟩ := Kd.R_slice k5
  exact ⟨⟨A, c, D, d, rfl⟩, hbb⟩
theorem sv8_1 (W : World) (A : Option Addr) (c : Nat) (B : Option Addr) (d : Nat) : Calls Tryz.prog 7 #[.agg #[.int .i64 2, .int .i64 2, .int .u64 0, .string ⟨#[]⟩, .slice A 0 c, .slice B 0 d], .agg #[.int .i64 2, .int .i64 2, .int .u64 0, .string ⟨#[]⟩, .slice none 0 0, .slice none 0 0]] W fun e w' => e = .returned (.bool true) ∧ Below W.heap.size W w' :=
  sv_leafs (⟨2, 2, 0, (⟨#[]⟩ : ByteArray), [], []⟩ : V) (⟨2, 2, 0, (⟨#[]⟩ : ByteArray), [], []⟩ : V) rfl rfl rfl rfl (by kernel_rfl) A c B d W
theorem sv8_2 (W : World) (A : Option Addr) (c : Nat) (B : Option Addr) (d : Nat) : Calls Tryz.prog 7 #[.agg #[.int .i64 4, .int .i64 0, .int .u64 0, .string ⟨#[120]⟩, .slice A 0 c, .slice B 0 d], .agg #[.int .i64 4, .int .i64 0, .int .u64 0, .string ⟨#[120]⟩, .slice none 0 0, .slice none 0 0]] W fun e w' => e = .returned (.bool true) ∧ Below W.heap.size W w' :=
  sv_leafs (⟨4, 0, 0, (⟨#[120]⟩ : ByteArray), [], []⟩ : V) (⟨4, 0, 0, (⟨#[120]⟩ : ByteArray), [], []⟩ : V) rfl rfl rfl rfl (by kernel_rfl) A c B d W
theorem sv8_3 (W : World) (A : Option Addr) (c : Nat) (B : Option Addr) (d : Nat) : Calls Tryz.prog 7 #[.agg #[.int .i64 4, .int .i64 0, .int .u64 0, .string ⟨#[49, 98, 116, 114, 117, 101]⟩, .slice A 0 c, .slice B 0 d], .agg #[.int .i64 4, .int .i64 0, .int .u64 0, .string ⟨#[49, 98, 116, 114, 117, 101]⟩, .slice none 0 0, .slice none 0 0]] W fun e w' => e = .returned (.bool true) ∧ Below W.heap.size W w' :=
  sv_leafs (⟨4, 0, 0, (⟨#[49, 98, 116, 114, 117, 101]⟩ : ByteArray), [], []⟩ : V) (⟨4, 0, 0, (⟨#[49, 98, 116, 114, 117, 101]⟩ : ByteArray), [], []⟩ : V) rfl rfl rfl rfl (by kernel_rfl) A c B d W
theorem sv8_4 (W : World) (A : Option Addr) (c : Nat) (B : Option Addr) (d : Nat) : Calls Tryz.prog 7 #[.agg #[.int .i64 3, .int .i64 0, .int .u64 9223372036854775808, .string ⟨#[]⟩, .slice A 0 c, .slice B 0 d], .agg #[.int .i64 3, .int .i64 0, .int .u64 9223372036854775808, .string ⟨#[]⟩, .slice none 0 0, .slice none 0 0]] W fun e w' => e = .returned (.bool true) ∧ Below W.heap.size W w' :=
  sv_leafs (⟨3, 0, 9223372036854775808, (⟨#[]⟩ : ByteArray), [], []⟩ : V) (⟨3, 0, 9223372036854775808, (⟨#[]⟩ : ByteArray), [], []⟩ : V) rfl rfl rfl rfl (by kernel_rfl) A c B d W
end Go.Proofs.YtoocfodefbechaaGreatDoor.Fns
namespace Go.Proofs.YtoocfodefbechaaGreatDoor.Fns
open Go.RowKit Go.Proofs.YtoocfodefbechaaGreatDoor.Q Go.Proofs.YtoocfodefbechaaGreatDoor.Real Go.Proofs.YtoocfodefbechaaGreatDoor.RealPure Go.Proofs.YtoocfodefbechaaGreatDoor.Values Go.Proofs.YtoocfodefbechaaGreatDoorW.PrintWords Go.Proofs.YtoocfodefbechaaGreatDoorW.PrintLast Go.Proofs.YtoocfodefbechaaGreatDoorW.PrintMore
set_option linter.unusedSimpArgs false
set_option linter.unusedVariables false
set_option maxRecDepth 100000
theorem six18 {W : World} {g : Nat} {v0 v1 v2 v3 v4 v5 : Value} {e : TypeId} (h : W.heap[g]? = some (.cells #[v0, v1, v2, v3, v4, v5] e (0, 0))) : W.cell? ⟨g, 0, none⟩ = some v0 ∧ W.cell? ⟨g, 1, none⟩ = some v1 ∧ W.cell? ⟨g, 2, none⟩ = some v2 ∧ W.cell? ⟨g, 3, none⟩ = some v3 ∧ W.cell? ⟨g, 4, none⟩ = some v4 ∧ W.cell? ⟨g, 5, none⟩ = some v5 :=
  ⟨(blk_cell h 0).trans rfl, (blk_cell h 1).trans rfl, (blk_cell h 2).trans rfl, (blk_cell h 3).trans rfl, (blk_cell h 4).trans rfl, (blk_cell h 5).trans rfl⟩
theorem num018 (i : Int) (W : World) : Calls Tryz.prog 8 #[.int .i64 i] W fun e w' => e = .returned (.int .i64 i) ∧ Below W.heap.size W w' := (stolelaw0_Num.calls i i W rfl).mono fun e w' ⟨h1, h2⟩ => ⟨h1, h2.below⟩
theorem keep18 {w W W1 : World} {gi gl ga gb gc gd : Nat} {aA : Option Addr} {aa : Nat} {aB : Option Addr} {ab : Nat} {bA : Option Addr} {ba : Nat} {bB : Option Addr} {bb : Nat} {cA : Option Addr} {ca : Nat} {cB : Option Addr} {cb : Nat} {dA : Option Addr} {da : Nat} {dB : Option Addr} {db : Nat} (h : Aw8 w W gi gl) (ha : W.heap[ga]? = some (.cells #[.int .i64 2, .int .i64 2, .int .u64 0, .string ⟨#[]⟩, .slice aA 0 aa, .slice aB 0 ab] 27 (0, 0))) (hb : W.heap[gb]? = some (.cells #[.int .i64 4, .int .i64 0, .int .u64 0, .string ⟨#[120]⟩, .slice bA 0 ba, .slice bB 0 bb] 27 (0, 0))) (hc : W.heap[gc]? = some (.cells #[.int .i64 4, .int .i64 0, .int .u64 0, .string ⟨#[49, 98, 116, 114, 117, 101]⟩, .slice cA 0 ca, .slice cB 0 cb] 27 (0, 0))) (hd : W.heap[gd]? = some (.cells #[.int .i64 3, .int .i64 0, .int .u64 9223372036854775808, .string ⟨#[]⟩, .slice dA 0 da, .slice dB 0 db] 27 (0, 0))) (hB : Below W.heap.size W W1) :
    Aw8 w W1 gi gl ∧ W1.heap[ga]? = some (.cells #[.int .i64 2, .int .i64 2, .int .u64 0, .string ⟨#[]⟩, .slice aA 0 aa, .slice aB 0 ab] 27 (0, 0)) ∧ W1.heap[gb]? = some (.cells #[.int .i64 4, .int .i64 0, .int .u64 0, .string ⟨#[120]⟩, .slice bA 0 ba, .slice bB 0 bb] 27 (0, 0)) ∧ W1.heap[gc]? = some (.cells #[.int .i64 4, .int .i64 0, .int .u64 0, .string ⟨#[49, 98, 116, 114, 117, 101]⟩, .slice cA 0 ca, .slice cB 0 cb] 27 (0, 0)) ∧ W1.heap[gd]? = some (.cells #[.int .i64 3, .int .i64 0, .int .u64 9223372036854775808, .string ⟨#[]⟩, .slice dA 0 da, .slice dB 0 db] 27 (0, 0)) ∧ W1.cell? ⟨ga, 0, none⟩ = some (.int .i64 2) ∧ W1.cell? ⟨ga, 1, none⟩ = some (.int .i64 2) ∧ W1.cell? ⟨ga, 2, none⟩ = some (.int .u64 0) ∧ W1.cell? ⟨ga, 3, none⟩ = some (.string ⟨#[]⟩) ∧ W1.cell? ⟨ga, 4, none⟩ = some (.slice aA 0 aa) ∧ W1.cell? ⟨ga, 5, none⟩ = some (.slice aB 0 ab) ∧ W1.cell? ⟨gb, 0, none⟩ = some (.int .i64 4) ∧ W1.cell? ⟨gb, 1, none⟩ = some (.int .i64 0) ∧ W1.cell? ⟨gb, 2, none⟩ = some (.int .u64 0) ∧ W1.cell? ⟨gb, 3, none⟩ = some (.string ⟨#[120]⟩) ∧ W1.cell? ⟨gb, 4, none⟩ = some (.slice bA 0 ba) ∧ W1.cell? ⟨gb, 5, none⟩ = some (.slice bB 0 bb) ∧ W1.cell? ⟨gc, 0, none⟩ = some (.int .i64 4) ∧ W1.cell? ⟨gc, 1, none⟩ = some (.int .i64 0) ∧ W1.cell? ⟨gc, 2, none⟩ = some (.int .u64 0) ∧ W1.cell? ⟨gc, 3, none⟩ = some (.string ⟨#[49, 98, 116, 114, 117, 101]⟩) ∧ W1.cell? ⟨gc, 4, none⟩ = some (.slice cA 0 ca) ∧ W1.cell? ⟨gc, 5, none⟩ = some (.slice cB 0 cb) ∧ W1.cell? ⟨gd, 0, none⟩ = some (.int .i64 3) ∧ W1.cell? ⟨gd, 1, none⟩ = some (.int .i64 0) ∧ W1.cell? ⟨gd, 2, none⟩ = some (.int .u64 9223372036854775808) ∧ W1.cell? ⟨gd, 3, none⟩ = some (.string ⟨#[]⟩) ∧ W1.cell? ⟨gd, 4, none⟩ = some (.slice dA 0 da) ∧ W1.cell? ⟨gd, 5, none⟩ = some (.slice dB 0 db) := by
  have ka := blk_below ha hB
  obtain ⟨a0, a1, a2, a3, a4, a5⟩ := six18 ka
  have kb := blk_below hb hB
  obtain ⟨b0, b1, b2, b3, b4, b5⟩ := six18 kb
  have kc := blk_below hc hB
  obtain ⟨c0, c1, c2, c3, c4, c5⟩ := six18 kc
  have kd := blk_below hd hB
  obtain ⟨d0, d1, d2, d3, d4, d5⟩ := six18 kd
  exact ⟨h.below hB, ka, kb, kc, kd, a0, a1, a2, a3, a4, a5, b0, b1, b2, b3, b4, b5, c0, c1, c2, c3, c4, c5, d0, d1, d2, d3, d4, d5⟩
theorem leaf_new (W : World) (k i u : Int) (s : ByteArray) (A : Option Addr) (c : Nat) (B : Option Addr) (d : Nat) : Leaf (W.alloc (.cells #[.int .i64 k, .int .i64 i, .int .u64 u, .string s, .slice A 0 c, .slice B 0 d] 27)) W.heap.size k i u s := ⟨A, c, B, d, blk_new _ _⟩
theorem leaf_put {W : World} {g : Nat} {o0 o1 o2 o3 o4 o5 : Value} (h : W.heap[g]? = some (.cells #[o0, o1, o2, o3, o4, o5] 27 (0, 0))) (k i u : Int) (s : ByteArray) (A : Option Addr) (c : Nat) (B : Option Addr) (d : Nat) :
    Leaf ((((((W.setCell ⟨g, 0, none⟩ (.int .i64 k)).setCell ⟨g, 1, none⟩ (.int .i64 i)).setCell ⟨g, 2, none⟩ (.int .u64 u)).setCell ⟨g, 3, none⟩ (.string s)).setCell ⟨g, 4, none⟩ (.slice A 0 c)).setCell ⟨g, 5, none⟩ (.slice B 0 d)) g k i u s := ⟨A, c, B, d, six_put h _ _ _ _ _ _⟩
theorem row_blk {W : World} {g : Nat} (xs : List V) (cs : List Value) (hb : W.heap[g]? = some (.cells cs.toArray 27 (0, 0))) (h : Reps (k27.K W) 6 xs cs) (hl : xs.length ≤ 9223372036854775807) : Kd.C k27 W (some ⟨g, 0, none⟩) xs.length xs := by
  refine ⟨rfl, hl, fun _ => ⟨_, rfl, fun j p hj => ⟨(cs.drop (j * 6)).take 6, ?_, h.2 j p hj, fun i u hu => ?_⟩⟩⟩
  · have hjl := (List.getElem?_eq_some_iff.1 hj).1
    rw [List.length_take, List.length_drop, h.1]
    show min 6 (xs.length * 6 - j * 6) = 6
    omega
  · rw [List.getElem?_take] at hu
    split at hu
    · rw [List.getElem?_drop] at hu
      rw [Addr.add_lit, blk_cell hb _, Nat.zero_add]
      show cs.toArray[j * 6 + i]? = some u
      simpa using hu
    · cases hu
theorem call_blk (nm : ByteArray) (xs : List V) (cs : List Value) (n g : Nat) (W : World) (hT : Tabs W) (hb : W.heap[g]? = some (.cells cs.toArray 27 (0, 0))) (h : Reps (k27.K W) 6 xs cs) (hl : xs.length < 1000) (hr : xs.all (rngB 8) = true) (R : V × Int) (hR : callR nm xs = R) (h4 : R.1.f4 = []) (h5 : R.1.f5 = []) :
    Calls Tryz.prog 5 #[.string nm, .slice (some ⟨g, 0, none⟩) xs.length n] W fun e w' => (∃ A c B d, e = .returned (.tuple #[.agg #[.int .i64 R.1.f0, .int .i64 R.1.f1, .int .u64 R.1.f2, .string R.1.f3, .slice A 0 c, .slice B 0 d], .int .i64 R.2])) ∧ Below W.heap.size W w' := by
  refine (Call_calls nm xs _ n _ ⟨hT, by omega, row_blk xs cs hb h (by omega), fun z hz => rng_of 8 z (List.all_eq_true.1 hr z hz)⟩).mono ?_
  rw [hR]
  rintro e w' ⟨v4, v5, rfl, k4, k5, hbb⟩
  obtain ⟨A, c, rfl⟩ := Kd.R_slice k4
  obtain ⟨D, d, rfl⟩ := Kd.R_slice k5
  rw [h4, h5]
  exact ⟨⟨A, c, D, d, rfl⟩, hbb⟩
theorem aw8g_3 {w : World} {gi gl : Nat} (W : World) (g : Nat) (h : Aw8 w W gi gl) (hT : Tabs W) (hb : W.heap[g]? = some (.cells #[.int .i64 5, .int .i64 0, .int .u64 0, .string ⟨#[]⟩, .slice (some ⟨gi, 0, none⟩) 2 2, .slice none 0 0, .int .i64 2, .int .i64 1, .int .u64 0, .string ⟨#[]⟩, .slice none 0 0, .slice none 0 0] 27 (0, 0))) : Calls Tryz.prog 5 #[.string ⟨#[105, 110, 100, 101, 120]⟩, .slice (some ⟨g, 0, none⟩) 2 2] W fun e w' => (∃ A c B d, e = .returned (.tuple #[.agg #[.int .i64 4, .int .i64 0, .int .u64 0, .string ⟨#[120]⟩, .slice A 0 c, .slice B 0 d], .int .i64 0])) ∧ Below W.heap.size W w' :=
  call_blk (⟨#[105, 110, 100, 101, 120]⟩ : ByteArray) [listV, numV 1] [.int .i64 5, .int .i64 0, .int .u64 0, .string ⟨#[]⟩, .slice (some ⟨gi, 0, none⟩) 2 2, .slice none 0 0, .int .i64 2, .int .i64 1, .int .u64 0, .string ⟨#[]⟩, .slice none 0 0, .slice none 0 0] 2 g W hT hb (reps2 h.listK (leafK W (numV 1) rfl rfl)) (by decide) (by kernel_rfl) (textV ⟨#[120]⟩, 0) r8_3 rfl rfl
theorem aw8g_4 {w : World} {gi gl : Nat} (W : World) (g : Nat) (h : Aw8 w W gi gl) (hT : Tabs W) (hb : W.heap[g]? = some (.cells #[.int .i64 5, .int .i64 0, .int .u64 0, .string ⟨#[]⟩, .slice (some ⟨gi, 0, none⟩) 2 2, .slice none 0 0, .int .i64 2, .int .i64 2, .int .u64 0, .string ⟨#[]⟩, .slice none 0 0, .slice none 0 0] 27 (0, 0))) : Calls Tryz.prog 5 #[.string ⟨#[105, 110, 100, 101, 120]⟩, .slice (some ⟨g, 0, none⟩) 2 2] W fun e w' => (∃ A c B d, e = .returned (.tuple #[.agg #[.int .i64 0, .int .i64 0, .int .u64 0, .string ⟨#[]⟩, .slice A 0 c, .slice B 0 d], .int .i64 1803])) ∧ Below W.heap.size W w' :=
  call_blk (⟨#[105, 110, 100, 101, 120]⟩ : ByteArray) [listV, numV 2] [.int .i64 5, .int .i64 0, .int .u64 0, .string ⟨#[]⟩, .slice (some ⟨gi, 0, none⟩) 2 2, .slice none 0 0, .int .i64 2, .int .i64 2, .int .u64 0, .string ⟨#[]⟩, .slice none 0 0, .slice none 0 0] 2 g W hT hb (reps2 h.listK (leafK W (numV 2) rfl rfl)) (by decide) (by kernel_rfl) (z27, 1803) r8_4 rfl rfl

set_option maxHeartbeats 16000000 in
theorem awake18_calls (w : World) (hT : Tabs w) : Calls Tryz.prog 10 #[] w fun e w' => e = .returned (.bool true) ∧ Below w.heap.size w w' := by
  have HT := Lib.hid hT
  clear hT
  have CN := Lib.hid num18; have CT := Lib.hid text18; have CB := Lib.hid bits18; have CR := Lib.hid truth18
  go_enter Tryz.func10, Tryz.ntmps10
  go_upto_region 2 with (first | (go_at_call 30; refine (CN.out _ _).mono ?_; rintro e w1 ⟨rfl, hb1⟩; have B1 := Lib.hid hb1; clear hb1) | (go_at_call 31; refine (CT.out _ _).mono ?_; rintro e w2 ⟨rfl, hb2⟩; have B2 := Lib.hid (below_step B1.out hb2); clear hb2))
  have AW : Hid (Aw8 w ((w2.alloc (.cells #[.int .i64 2, .int .i64 7, .int .u64 0, .string ⟨#[]⟩, .slice none 0 0, .slice none 0 0, .int .i64 4, .int .i64 0, .int .u64 0, .string ⟨#[120]⟩, .slice none 0 0, .slice none 0 0] 27)).alloc (.cells #[.int .i64 5, .int .i64 0, .int .u64 0, .string ⟨#[]⟩, .slice (some ⟨w2.heap.size, 0, none⟩) 2 2, .slice none 0 0] 27)) w2.heap.size (w2.heap.size + 1)) := Lib.hid ⟨blk_alloc (blk_new _ _) _, by have := blk_new (w2.alloc (.cells #[.int .i64 2, .int .i64 7, .int .u64 0, .string ⟨#[]⟩, .slice none 0 0, .slice none 0 0, .int .i64 4, .int .i64 0, .int .u64 0, .string ⟨#[120]⟩, .slice none 0 0, .slice none 0 0] 27)) (.cells #[.int .i64 5, .int .i64 0, .int .u64 0, .string ⟨#[]⟩, .slice (some ⟨w2.heap.size, 0, none⟩) 2 2, .slice none 0 0] 27); simpa using this, below_alloc (below_alloc B2.out _) _⟩
  clear B1 B2
  generalize ((w2.alloc (.cells #[.int .i64 2, .int .i64 7, .int .u64 0, .string ⟨#[]⟩, .slice none 0 0, .slice none 0 0, .int .i64 4, .int .i64 0, .int .u64 0, .string ⟨#[120]⟩, .slice none 0 0, .slice none 0 0] 27)).alloc (.cells #[.int .i64 5, .int .i64 0, .int .u64 0, .string ⟨#[]⟩, .slice (some ⟨w2.heap.size, 0, none⟩) 2 2, .slice none 0 0] 27)) = W1 at AW ⊢
  generalize w2.heap.size = gi at AW ⊢
  generalize gi + 1 = gl at AW ⊢
  obtain ⟨l0, l1, l2, l3, l4, l5⟩ := six18 AW.out.L
  go_upto_region 3 with (first | (go_at_call 5; (with_reducible refine (aw8_2 _ AW.out (AW.out.tabs HT.out)).mono ?_); rintro e wm ⟨⟨XA, xc, XB, xd, rfl⟩, hb⟩; have AW1 := Lib.hid (AW.out.below hb); clear AW; have AW := AW1; clear AW1; clear l0 l1 l2 l3 l4 l5; obtain ⟨l0, l1, l2, l3, l4, l5⟩ := six18 AW.out.L; clear hb))
  have Za := Lib.hid (show Leaf (wm.alloc (.cells #[.int .i64 2, .int .i64 2, .int .u64 0, .string ⟨#[]⟩, .slice XA 0 xc, .slice XB 0 xd] 27)) wm.heap.size 2 2 0 (⟨#[]⟩ : ByteArray) from ⟨XA, xc, XB, xd, blk_new _ _⟩)
  have hb := below_alloc (Below.refl wm.heap.size wm) (.cells #[.int .i64 2, .int .i64 2, .int .u64 0, .string ⟨#[]⟩, .slice XA 0 xc, .slice XB 0 xd] 27)
  have AW1 := Lib.hid (AW.out.below hb); clear AW; have AW := AW1; clear AW1
  clear hb
  generalize wm.alloc (.cells #[.int .i64 2, .int .i64 2, .int .u64 0, .string ⟨#[]⟩, .slice XA 0 xc, .slice XB 0 xd] 27) = W2 at AW Za ⊢
  generalize wm.heap.size = ga at Za ⊢
  clear l0 l1 l2 l3 l4 l5; obtain ⟨l0, l1, l2, l3, l4, l5⟩ := six18 AW.out.L
  go_cut [4, 5] (fun v4 v5 wc => ∃ (gn : Nat), v4 = .pointer (some ⟨gn, 0, none⟩) ∧ v5 = .int .i64 0 ∧ Aside0 (Aw8 w wc gi gl) ∧ Aside0 (Leaf wc ga 2 2 0 (⟨#[]⟩ : ByteArray)) ∧ Aside0 (Leaf wc gn 4 0 0 (⟨#[120]⟩ : ByteArray)))
  case first =>
    have hb := below_drew (Below.refl W2.heap.size W2)
    have la0 := fun o => pw_cell_below (below_alloc (Below.refl W2.heap.size W2) o) l0; have la1 := fun o => pw_cell_below (below_alloc (Below.refl W2.heap.size W2) o) l1; have la2 := fun o => pw_cell_below (below_alloc (Below.refl W2.heap.size W2) o) l2; have la3 := fun o => pw_cell_below (below_alloc (Below.refl W2.heap.size W2) o) l3; have la4 := fun o => pw_cell_below (below_alloc (Below.refl W2.heap.size W2) o) l4; have la5 := fun o => pw_cell_below (below_alloc (Below.refl W2.heap.size W2) o) l5
    have AW1 := Lib.hid (AW.out.below hb); clear AW; have AW := AW1; clear AW1; have Z1 := Lib.hid (Za.out.below hb); clear Za; have Za := Z1; clear Z1
    clear hb
    clear l0 l1 l2 l3 l4 l5
    obtain ⟨l0, l1, l2, l3, l4, l5⟩ := six18 AW.out.L
    have hlt := blk_lt AW.out.L; have nl : (gl = W2.heap.size) = False := eq_false (Nat.ne_of_lt (by simpa using hlt)); have nl2 : (W2.heap.size = gl) = False := eq_false (Ne.symm (Nat.ne_of_lt (by simpa using hlt))); have nl3 : (gl = W2.drew.heap.size) = False := eq_false (Nat.ne_of_lt hlt); clear hlt
    go_region_with (first | (go_at_call 30; (with_reducible refine (CN.out _ _).mono ?_); rintro e wn ⟨rfl, hb⟩; have HB := Lib.hid (below_step (by first | exact Below.refl _ _ | exact below_alloc (Below.refl _ _) _ : Below W2.drew.heap.size W2.drew _) hb); (try have ZN := Lib.hid (show wn.heap[W2.heap.size]? = some zeros from by have hq := blk_below (blk_new W2.drew zeros) hb; simpa using hq)); clear l0 l1 l2 l3 l4 l5; obtain ⟨l0, l1, l2, l3, l4, l5⟩ := six18 (AW.out.below HB.out).L; clear la0 la1 la2 la3 la4 la5 nl nl2 nl3; have la0 := fun o => pw_cell_below (below_alloc (Below.refl wn.heap.size wn) o) l0; have la1 := fun o => pw_cell_below (below_alloc (Below.refl wn.heap.size wn) o) l1; have la2 := fun o => pw_cell_below (below_alloc (Below.refl wn.heap.size wn) o) l2; have la3 := fun o => pw_cell_below (below_alloc (Below.refl wn.heap.size wn) o) l3; have la4 := fun o => pw_cell_below (below_alloc (Below.refl wn.heap.size wn) o) l4; have la5 := fun o => pw_cell_below (below_alloc (Below.refl wn.heap.size wn) o) l5; have nl : (gl = wn.heap.size) = False := eq_false (Nat.ne_of_lt (blk_lt (AW.out.below HB.out).L)); have nl2 : (wn.heap.size = gl) = False := eq_false (Ne.symm (Nat.ne_of_lt (blk_lt (AW.out.below HB.out).L))); have nl3 := nl; clear hb) | (go_at_call 5; (with_reducible refine (aw8g_3 _ _ (AW.out.below (by first | exact below_alloc HB.out _ | exact below_alloc (below_alloc HB.out _) _)) ((AW.out.below (by first | exact below_alloc HB.out _ | exact below_alloc (below_alloc HB.out _) _)).tabs HT.out) (by first | exact blk_new _ _ | exact blk_alloc (blk_new _ _) _ | (have := blk_new (wn.alloc zeros) (.cells #[.int .i64 5, .int .i64 0, .int .u64 0, .string ⟨#[]⟩, .slice (some ⟨gi, 0, none⟩) 2 2, .slice none 0 0, .int .i64 2, .int .i64 1, .int .u64 0, .string ⟨#[]⟩, .slice none 0 0, .slice none 0 0] 27); simpa using this))).mono ?_); rintro e wm ⟨⟨XA, xc, XB, xd, rfl⟩, hb⟩; have HB2 := Lib.hid (below_step (by first | exact below_alloc HB.out _ | exact below_alloc (below_alloc HB.out _) _ : Below W2.drew.heap.size W2.drew _) hb); (first | have NB := Lib.hid (blk_below (blk_alloc ZN.out _) hb) | have NB := Lib.hid (blk_below (blk_alloc (blk_new wn zeros) _) hb) | have NB := Lib.hid (blk_below (show ((wn.alloc (.cells #[.int .i64 5, .int .i64 0, .int .u64 0, .string ⟨#[]⟩, .slice (some ⟨gi, 0, none⟩) 2 2, .slice none 0 0, .int .i64 2, .int .i64 1, .int .u64 0, .string ⟨#[]⟩, .slice none 0 0, .slice none 0 0] 27)).alloc zeros).heap[wn.heap.size + 1]? = some zeros from by simpa using blk_new (wn.alloc (.cells #[.int .i64 5, .int .i64 0, .int .u64 0, .string ⟨#[]⟩, .slice (some ⟨gi, 0, none⟩) 2 2, .slice none 0 0, .int .i64 2, .int .i64 1, .int .u64 0, .string ⟨#[]⟩, .slice none 0 0, .slice none 0 0] 27)) zeros) hb) | skip); (try (have n0 := (blk_cell NB.out 0).trans rfl; have f0 := blk_frozen NB.out 0; have n1 := (blk_cell NB.out 1).trans rfl; have f1 := blk_frozen NB.out 1; have n2 := (blk_cell NB.out 2).trans rfl; have f2 := blk_frozen NB.out 2; have n3 := (blk_cell NB.out 3).trans rfl; have f3 := blk_frozen NB.out 3; have n4 := (blk_cell NB.out 4).trans rfl; have f4 := blk_frozen NB.out 4; have n5 := (blk_cell NB.out 5).trans rfl; have f5 := blk_frozen NB.out 5)); clear l0 l1 l2 l3 l4 l5 hb))
    all_goals
      (try go_wp2)
      go_meet
      case rel =>
        have key : ∀ (Wf : World) (g : Nat), Below W2.drew.heap.size W2.drew Wf → Leaf Wf g 4 0 0 (⟨#[120]⟩ : ByteArray) → (Aside0 (Aw8 w Wf gi gl) ∧ Aside0 (Leaf Wf ga 2 2 0 (⟨#[]⟩ : ByteArray)) ∧ Aside0 (Leaf Wf g 4 0 0 (⟨#[120]⟩ : ByteArray))) := fun Wf g hb hl => ⟨⟨AW.out.below hb⟩, ⟨Za.out.below hb⟩, ⟨hl⟩⟩
        refine ⟨_, rfl, rfl, key _ _ ?_ ?_⟩
        · first
          | with_reducible exact below_alloc HB2.out _
          | (with_reducible refine six_below HB2.out ?_ _ _ _ _ _ _); exact Nat.le_refl _
          | (with_reducible refine six_below HB2.out ?_ _ _ _ _ _ _); exact below_size HB.out
          | (with_reducible refine six_below HB2.out ?_ _ _ _ _ _ _); exact Nat.le_succ_of_le (below_size HB.out)
        · first
          | with_reducible exact leaf_new _ _ _ _ _ _ _ _ _
          | with_reducible exact leaf_put NB.out _ _ _ _ _ _ _ _
  clear AW l0 l1 l2 l3 l4 l5 Za
  obtain ⟨gb, rfl, rfl, AW0, Za0, Zb0⟩ := hcut
  have AW := Lib.hid AW0.out; clear AW0
  have Za := Lib.hid Za0.out; clear Za0
  have Zb := Lib.hid Zb0.out; clear Zb0
  obtain ⟨l0, l1, l2, l3, l4, l5⟩ := six18 AW.out.L
  go_upto_region 4 with (fail)
  go_cut [6, 7] (fun v6 v7 wc => ∃ (gn : Nat), v6 = .pointer (some ⟨gn, 0, none⟩) ∧ v7 = .int .i64 1803 ∧ Aside0 (Aw8 w wc gi gl) ∧ Aside0 (Leaf wc ga 2 2 0 (⟨#[]⟩ : ByteArray)) ∧ Aside0 (Leaf wc gb 4 0 0 (⟨#[120]⟩ : ByteArray)) ∧ Aside0 (Leaf wc gn 0 0 0 (⟨#[]⟩ : ByteArray)))
  case first =>
    have hb := below_drew (Below.refl wc.heap.size wc)
    have la0 := fun o => pw_cell_below (below_alloc (Below.refl wc.heap.size wc) o) l0; have la1 := fun o => pw_cell_below (below_alloc (Below.refl wc.heap.size wc) o) l1; have la2 := fun o => pw_cell_below (below_alloc (Below.refl wc.heap.size wc) o) l2; have la3 := fun o => pw_cell_below (below_alloc (Below.refl wc.heap.size wc) o) l3; have la4 := fun o => pw_cell_below (below_alloc (Below.refl wc.heap.size wc) o) l4; have la5 := fun o => pw_cell_below (below_alloc (Below.refl wc.heap.size wc) o) l5
    have AW1 := Lib.hid (AW.out.below hb); clear AW; have AW := AW1; clear AW1; have Z1 := Lib.hid (Za.out.below hb); clear Za; have Za := Z1; clear Z1; have Z1 := Lib.hid (Zb.out.below hb); clear Zb; have Zb := Z1; clear Z1
    clear hb
    clear l0 l1 l2 l3 l4 l5
    obtain ⟨l0, l1, l2, l3, l4, l5⟩ := six18 AW.out.L
    have hlt := blk_lt AW.out.L; have nl : (gl = wc.heap.size) = False := eq_false (Nat.ne_of_lt (by simpa using hlt)); have nl2 : (wc.heap.size = gl) = False := eq_false (Ne.symm (Nat.ne_of_lt (by simpa using hlt))); have nl3 : (gl = wc.drew.heap.size) = False := eq_false (Nat.ne_of_lt hlt); clear hlt
    go_region_with (first | (go_at_call 30; (with_reducible refine (CN.out _ _).mono ?_); rintro e wn ⟨rfl, hb⟩; have HB := Lib.hid (below_step (by first | exact Below.refl _ _ | exact below_alloc (Below.refl _ _) _ : Below wc.drew.heap.size wc.drew _) hb); (try have ZN := Lib.hid (show wn.heap[wc.heap.size]? = some zeros from by have hq := blk_below (blk_new wc.drew zeros) hb; simpa using hq)); clear l0 l1 l2 l3 l4 l5; obtain ⟨l0, l1, l2, l3, l4, l5⟩ := six18 (AW.out.below HB.out).L; clear la0 la1 la2 la3 la4 la5 nl nl2 nl3; have la0 := fun o => pw_cell_below (below_alloc (Below.refl wn.heap.size wn) o) l0; have la1 := fun o => pw_cell_below (below_alloc (Below.refl wn.heap.size wn) o) l1; have la2 := fun o => pw_cell_below (below_alloc (Below.refl wn.heap.size wn) o) l2; have la3 := fun o => pw_cell_below (below_alloc (Below.refl wn.heap.size wn) o) l3; have la4 := fun o => pw_cell_below (below_alloc (Below.refl wn.heap.size wn) o) l4; have la5 := fun o => pw_cell_below (below_alloc (Below.refl wn.heap.size wn) o) l5; have nl : (gl = wn.heap.size) = False := eq_false (Nat.ne_of_lt (blk_lt (AW.out.below HB.out).L)); have nl2 : (wn.heap.size = gl) = False := eq_false (Ne.symm (Nat.ne_of_lt (blk_lt (AW.out.below HB.out).L))); have nl3 := nl; clear hb) | (go_at_call 5; (with_reducible refine (aw8g_4 _ _ (AW.out.below (by first | exact below_alloc HB.out _ | exact below_alloc (below_alloc HB.out _) _)) ((AW.out.below (by first | exact below_alloc HB.out _ | exact below_alloc (below_alloc HB.out _) _)).tabs HT.out) (by first | exact blk_new _ _ | exact blk_alloc (blk_new _ _) _ | (have := blk_new (wn.alloc zeros) (.cells #[.int .i64 5, .int .i64 0, .int .u64 0, .string ⟨#[]⟩, .slice (some ⟨gi, 0, none⟩) 2 2, .slice none 0 0, .int .i64 2, .int .i64 2, .int .u64 0, .string ⟨#[]⟩, .slice none 0 0, .slice none 0 0] 27); simpa using this))).mono ?_); rintro e wm ⟨⟨XA, xc, XB, xd, rfl⟩, hb⟩; have HB2 := Lib.hid (below_step (by first | exact below_alloc HB.out _ | exact below_alloc (below_alloc HB.out _) _ : Below wc.drew.heap.size wc.drew _) hb); (first | have NB := Lib.hid (blk_below (blk_alloc ZN.out _) hb) | have NB := Lib.hid (blk_below (blk_alloc (blk_new wn zeros) _) hb) | have NB := Lib.hid (blk_below (show ((wn.alloc (.cells #[.int .i64 5, .int .i64 0, .int .u64 0, .string ⟨#[]⟩, .slice (some ⟨gi, 0, none⟩) 2 2, .slice none 0 0, .int .i64 2, .int .i64 2, .int .u64 0, .string ⟨#[]⟩, .slice none 0 0, .slice none 0 0] 27)).alloc zeros).heap[wn.heap.size + 1]? = some zeros from by simpa using blk_new (wn.alloc (.cells #[.int .i64 5, .int .i64 0, .int .u64 0, .string ⟨#[]⟩, .slice (some ⟨gi, 0, none⟩) 2 2, .slice none 0 0, .int .i64 2, .int .i64 2, .int .u64 0, .string ⟨#[]⟩, .slice none 0 0, .slice none 0 0] 27)) zeros) hb) | skip); (try (have n0 := (blk_cell NB.out 0).trans rfl; have f0 := blk_frozen NB.out 0; have n1 := (blk_cell NB.out 1).trans rfl; have f1 := blk_frozen NB.out 1; have n2 := (blk_cell NB.out 2).trans rfl; have f2 := blk_frozen NB.out 2; have n3 := (blk_cell NB.out 3).trans rfl; have f3 := blk_frozen NB.out 3; have n4 := (blk_cell NB.out 4).trans rfl; have f4 := blk_frozen NB.out 4; have n5 := (blk_cell NB.out 5).trans rfl; have f5 := blk_frozen NB.out 5)); clear l0 l1 l2 l3 l4 l5 hb))
    all_goals
      (try go_wp2)
      go_meet
      case rel =>
        have key : ∀ (Wf : World) (g : Nat), Below wc.drew.heap.size wc.drew Wf → Leaf Wf g 0 0 0 (⟨#[]⟩ : ByteArray) → (Aside0 (Aw8 w Wf gi gl) ∧ Aside0 (Leaf Wf ga 2 2 0 (⟨#[]⟩ : ByteArray)) ∧ Aside0 (Leaf Wf gb 4 0 0 (⟨#[120]⟩ : ByteArray)) ∧ Aside0 (Leaf Wf g 0 0 0 (⟨#[]⟩ : ByteArray))) := fun Wf g hb hl => ⟨⟨AW.out.below hb⟩, ⟨Za.out.below hb⟩, ⟨Zb.out.below hb⟩, ⟨hl⟩⟩
        refine ⟨_, rfl, rfl, key _ _ ?_ ?_⟩
        · first
          | with_reducible exact below_alloc HB2.out _
          | (with_reducible refine six_below HB2.out ?_ _ _ _ _ _ _); exact Nat.le_refl _
          | (with_reducible refine six_below HB2.out ?_ _ _ _ _ _ _); exact below_size HB.out
          | (with_reducible refine six_below HB2.out ?_ _ _ _ _ _ _); exact Nat.le_succ_of_le (below_size HB.out)
        · first
          | with_reducible exact leaf_new _ _ _ _ _ _ _ _ _
          | with_reducible exact leaf_put NB.out _ _ _ _ _ _ _ _
  clear AW l0 l1 l2 l3 l4 l5 Za Zb
  obtain ⟨gn_, rfl, rfl, AW0, Za0, Zb0, Zn_0⟩ := hcut
  have AW := Lib.hid AW0.out; clear AW0
  have Za := Lib.hid Za0.out; clear Za0
  have Zb := Lib.hid Zb0.out; clear Zb0
  clear Zn_0
  obtain ⟨l0, l1, l2, l3, l4, l5⟩ := six18 AW.out.L
  go_upto_region 6 with (first | (go_at_call 5; (with_reducible refine (aw8_5 _ AW.out (AW.out.tabs HT.out)).mono ?_); rintro e wm ⟨⟨XA, xc, XB, xd, rfl⟩, hb⟩; have AW1 := Lib.hid (AW.out.below hb); clear AW; have AW := AW1; clear AW1; have Z1 := Lib.hid (Za.out.below hb); clear Za; have Za := Z1; clear Z1; have Z1 := Lib.hid (Zb.out.below hb); clear Zb; have Zb := Z1; clear Z1; clear l0 l1 l2 l3 l4 l5; obtain ⟨l0, l1, l2, l3, l4, l5⟩ := six18 AW.out.L; clear hb))
  have hb := below_alloc (Below.refl wm.heap.size wm) (.cells #[.int .i64 0, .int .i64 0, .int .u64 0, .string ⟨#[]⟩, .slice XA 0 xc, .slice XB 0 xd] 27)
  have AW1 := Lib.hid (AW.out.below hb); clear AW; have AW := AW1; clear AW1; have Z1 := Lib.hid (Za.out.below hb); clear Za; have Za := Z1; clear Z1; have Z1 := Lib.hid (Zb.out.below hb); clear Zb; have Zb := Z1; clear Z1
  clear hb
  generalize wm.alloc (.cells #[.int .i64 0, .int .i64 0, .int .u64 0, .string ⟨#[]⟩, .slice XA 0 xc, .slice XB 0 xd] 27) = W5 at AW Za Zb ⊢
  clear l0 l1 l2 l3 l4 l5; obtain ⟨l0, l1, l2, l3, l4, l5⟩ := six18 AW.out.L
  go_upto_region 7 with (first | (go_at_call 30; (with_reducible refine (CN.out _ _).mono ?_); rintro e wn ⟨rfl, hb⟩; have AW1 := Lib.hid (AW.out.below hb); clear AW; have AW := AW1; clear AW1; have Z1 := Lib.hid (Za.out.below hb); clear Za; have Za := Z1; clear Z1; have Z1 := Lib.hid (Zb.out.below hb); clear Zb; have Zb := Z1; clear Z1; clear l0 l1 l2 l3 l4 l5; obtain ⟨l0, l1, l2, l3, l4, l5⟩ := six18 AW.out.L; clear hb) | (go_at_call 5; (with_reducible refine (aw8_6 _ AW.out (AW.out.tabs HT.out)).mono ?_); rintro e wm ⟨⟨XA, xc, XB, xd, rfl⟩, hb⟩; have AW1 := Lib.hid (AW.out.below hb); clear AW; have AW := AW1; clear AW1; have Z1 := Lib.hid (Za.out.below hb); clear Za; have Za := Z1; clear Z1; have Z1 := Lib.hid (Zb.out.below hb); clear Zb; have Zb := Z1; clear Z1; clear l0 l1 l2 l3 l4 l5; obtain ⟨l0, l1, l2, l3, l4, l5⟩ := six18 AW.out.L; clear hb))
  have hb := below_alloc (Below.refl wm.heap.size wm) (.cells #[.int .i64 0, .int .i64 0, .int .u64 0, .string ⟨#[]⟩, .slice XA 0 xc, .slice XB 0 xd] 27)
  have AW1 := Lib.hid (AW.out.below hb); clear AW; have AW := AW1; clear AW1; have Z1 := Lib.hid (Za.out.below hb); clear Za; have Za := Z1; clear Z1; have Z1 := Lib.hid (Zb.out.below hb); clear Zb; have Zb := Z1; clear Z1
  clear hb
  generalize wm.alloc (.cells #[.int .i64 0, .int .i64 0, .int .u64 0, .string ⟨#[]⟩, .slice XA 0 xc, .slice XB 0 xd] 27) = W6 at AW Za Zb ⊢
  clear l0 l1 l2 l3 l4 l5; obtain ⟨l0, l1, l2, l3, l4, l5⟩ := six18 AW.out.L
  go_upto_region 8 with (first | (go_at_call 30; (with_reducible refine (CN.out _ _).mono ?_); rintro e wn ⟨rfl, hb⟩; have AW1 := Lib.hid (AW.out.below hb); clear AW; have AW := AW1; clear AW1; have Z1 := Lib.hid (Za.out.below hb); clear Za; have Za := Z1; clear Z1; have Z1 := Lib.hid (Zb.out.below hb); clear Zb; have Zb := Z1; clear Z1; clear l0 l1 l2 l3 l4 l5; obtain ⟨l0, l1, l2, l3, l4, l5⟩ := six18 AW.out.L; clear hb) | (go_at_call 31; (with_reducible refine (CT.out _ _).mono ?_); rintro e wn ⟨rfl, hb⟩; have AW1 := Lib.hid (AW.out.below hb); clear AW; have AW := AW1; clear AW1; have Z1 := Lib.hid (Za.out.below hb); clear Za; have Za := Z1; clear Z1; have Z1 := Lib.hid (Zb.out.below hb); clear Zb; have Zb := Z1; clear Z1; clear l0 l1 l2 l3 l4 l5; obtain ⟨l0, l1, l2, l3, l4, l5⟩ := six18 AW.out.L; clear hb) | (go_at_call 5; (with_reducible refine (aw8_7 _ AW.out (AW.out.tabs HT.out)).mono ?_); rintro e wm ⟨⟨XA, xc, XB, xd, rfl⟩, hb⟩; have AW1 := Lib.hid (AW.out.below hb); clear AW; have AW := AW1; clear AW1; have Z1 := Lib.hid (Za.out.below hb); clear Za; have Za := Z1; clear Z1; have Z1 := Lib.hid (Zb.out.below hb); clear Zb; have Zb := Z1; clear Z1; clear l0 l1 l2 l3 l4 l5; obtain ⟨l0, l1, l2, l3, l4, l5⟩ := six18 AW.out.L; clear hb))
  have hb := below_alloc (Below.refl wm.heap.size wm) (.cells #[.int .i64 0, .int .i64 0, .int .u64 0, .string ⟨#[]⟩, .slice XA 0 xc, .slice XB 0 xd] 27)
  have AW1 := Lib.hid (AW.out.below hb); clear AW; have AW := AW1; clear AW1; have Z1 := Lib.hid (Za.out.below hb); clear Za; have Za := Z1; clear Z1; have Z1 := Lib.hid (Zb.out.below hb); clear Zb; have Zb := Z1; clear Z1
  clear hb
  generalize wm.alloc (.cells #[.int .i64 0, .int .i64 0, .int .u64 0, .string ⟨#[]⟩, .slice XA 0 xc, .slice XB 0 xd] 27) = W7 at AW Za Zb ⊢
  clear l0 l1 l2 l3 l4 l5; obtain ⟨l0, l1, l2, l3, l4, l5⟩ := six18 AW.out.L
  go_upto_region 9 with (first | (go_at_call 30; (with_reducible refine (CN.out _ _).mono ?_); rintro e wn ⟨rfl, hb⟩; have AW1 := Lib.hid (AW.out.below hb); clear AW; have AW := AW1; clear AW1; have Z1 := Lib.hid (Za.out.below hb); clear Za; have Za := Z1; clear Z1; have Z1 := Lib.hid (Zb.out.below hb); clear Zb; have Zb := Z1; clear Z1; clear l0 l1 l2 l3 l4 l5; obtain ⟨l0, l1, l2, l3, l4, l5⟩ := six18 AW.out.L; clear hb) | (go_at_call 31; (with_reducible refine (CT.out _ _).mono ?_); rintro e wn ⟨rfl, hb⟩; have AW1 := Lib.hid (AW.out.below hb); clear AW; have AW := AW1; clear AW1; have Z1 := Lib.hid (Za.out.below hb); clear Za; have Za := Z1; clear Z1; have Z1 := Lib.hid (Zb.out.below hb); clear Zb; have Zb := Z1; clear Z1; clear l0 l1 l2 l3 l4 l5; obtain ⟨l0, l1, l2, l3, l4, l5⟩ := six18 AW.out.L; clear hb) | (go_at_call 32; (with_reducible refine (CR.out _).mono ?_); rintro e wn ⟨rfl, hb⟩; have AW1 := Lib.hid (AW.out.below hb); clear AW; have AW := AW1; clear AW1; have Z1 := Lib.hid (Za.out.below hb); clear Za; have Za := Z1; clear Z1; have Z1 := Lib.hid (Zb.out.below hb); clear Zb; have Zb := Z1; clear Z1; clear l0 l1 l2 l3 l4 l5; obtain ⟨l0, l1, l2, l3, l4, l5⟩ := six18 AW.out.L; clear hb) | (go_at_call 5; (with_reducible refine (aw8_8 _ AW.out (AW.out.tabs HT.out)).mono ?_); rintro e wm ⟨⟨XA, xc, XB, xd, rfl⟩, hb⟩; have AW1 := Lib.hid (AW.out.below hb); clear AW; have AW := AW1; clear AW1; have Z1 := Lib.hid (Za.out.below hb); clear Za; have Za := Z1; clear Z1; have Z1 := Lib.hid (Zb.out.below hb); clear Zb; have Zb := Z1; clear Z1; clear l0 l1 l2 l3 l4 l5; obtain ⟨l0, l1, l2, l3, l4, l5⟩ := six18 AW.out.L; clear hb))
  have Zc := Lib.hid (show Leaf (wm.alloc (.cells #[.int .i64 4, .int .i64 0, .int .u64 0, .string ⟨#[49, 98, 116, 114, 117, 101]⟩, .slice XA 0 xc, .slice XB 0 xd] 27)) wm.heap.size 4 0 0 (⟨#[49, 98, 116, 114, 117, 101]⟩ : ByteArray) from ⟨XA, xc, XB, xd, blk_new _ _⟩)
  have hb := below_alloc (Below.refl wm.heap.size wm) (.cells #[.int .i64 4, .int .i64 0, .int .u64 0, .string ⟨#[49, 98, 116, 114, 117, 101]⟩, .slice XA 0 xc, .slice XB 0 xd] 27)
  have AW1 := Lib.hid (AW.out.below hb); clear AW; have AW := AW1; clear AW1; have Z1 := Lib.hid (Za.out.below hb); clear Za; have Za := Z1; clear Z1; have Z1 := Lib.hid (Zb.out.below hb); clear Zb; have Zb := Z1; clear Z1
  clear hb
  generalize wm.alloc (.cells #[.int .i64 4, .int .i64 0, .int .u64 0, .string ⟨#[49, 98, 116, 114, 117, 101]⟩, .slice XA 0 xc, .slice XB 0 xd] 27) = W8 at AW Za Zb Zc ⊢
  generalize wm.heap.size = gc at Zc ⊢
  clear l0 l1 l2 l3 l4 l5; obtain ⟨l0, l1, l2, l3, l4, l5⟩ := six18 AW.out.L
  go_upto_region 10 with (first | (go_at_call 30; (with_reducible refine (CN.out _ _).mono ?_); rintro e wn ⟨rfl, hb⟩; have AW1 := Lib.hid (AW.out.below hb); clear AW; have AW := AW1; clear AW1; have Z1 := Lib.hid (Za.out.below hb); clear Za; have Za := Z1; clear Z1; have Z1 := Lib.hid (Zb.out.below hb); clear Zb; have Zb := Z1; clear Z1; have Z1 := Lib.hid (Zc.out.below hb); clear Zc; have Zc := Z1; clear Z1; clear l0 l1 l2 l3 l4 l5; obtain ⟨l0, l1, l2, l3, l4, l5⟩ := six18 AW.out.L; clear hb) | (go_at_call 31; (with_reducible refine (CT.out _ _).mono ?_); rintro e wn ⟨rfl, hb⟩; have AW1 := Lib.hid (AW.out.below hb); clear AW; have AW := AW1; clear AW1; have Z1 := Lib.hid (Za.out.below hb); clear Za; have Za := Z1; clear Z1; have Z1 := Lib.hid (Zb.out.below hb); clear Zb; have Zb := Z1; clear Z1; have Z1 := Lib.hid (Zc.out.below hb); clear Zc; have Zc := Z1; clear Z1; clear l0 l1 l2 l3 l4 l5; obtain ⟨l0, l1, l2, l3, l4, l5⟩ := six18 AW.out.L; clear hb) | (go_at_call 33; (with_reducible refine (CB.out _ _).mono ?_); rintro e wn ⟨rfl, hb⟩; have AW1 := Lib.hid (AW.out.below hb); clear AW; have AW := AW1; clear AW1; have Z1 := Lib.hid (Za.out.below hb); clear Za; have Za := Z1; clear Z1; have Z1 := Lib.hid (Zb.out.below hb); clear Zb; have Zb := Z1; clear Z1; have Z1 := Lib.hid (Zc.out.below hb); clear Zc; have Zc := Z1; clear Z1; clear l0 l1 l2 l3 l4 l5; obtain ⟨l0, l1, l2, l3, l4, l5⟩ := six18 AW.out.L; clear hb) | (go_at_call 5; (with_reducible refine (aw8_9 _ AW.out (AW.out.tabs HT.out)).mono ?_); rintro e wm ⟨⟨XA, xc, XB, xd, rfl⟩, hb⟩; have AW1 := Lib.hid (AW.out.below hb); clear AW; have AW := AW1; clear AW1; have Z1 := Lib.hid (Za.out.below hb); clear Za; have Za := Z1; clear Z1; have Z1 := Lib.hid (Zb.out.below hb); clear Zb; have Zb := Z1; clear Z1; have Z1 := Lib.hid (Zc.out.below hb); clear Zc; have Zc := Z1; clear Z1; clear l0 l1 l2 l3 l4 l5; obtain ⟨l0, l1, l2, l3, l4, l5⟩ := six18 AW.out.L; clear hb))
  have Zd := Lib.hid (show Leaf (wm.alloc (.cells #[.int .i64 3, .int .i64 0, .int .u64 9223372036854775808, .string ⟨#[]⟩, .slice XA 0 xc, .slice XB 0 xd] 27)) wm.heap.size 3 0 9223372036854775808 (⟨#[]⟩ : ByteArray) from ⟨XA, xc, XB, xd, blk_new _ _⟩)
  have hb := below_alloc (Below.refl wm.heap.size wm) (.cells #[.int .i64 3, .int .i64 0, .int .u64 9223372036854775808, .string ⟨#[]⟩, .slice XA 0 xc, .slice XB 0 xd] 27)
  have AW1 := Lib.hid (AW.out.below hb); clear AW; have AW := AW1; clear AW1; have Z1 := Lib.hid (Za.out.below hb); clear Za; have Za := Z1; clear Z1; have Z1 := Lib.hid (Zb.out.below hb); clear Zb; have Zb := Z1; clear Z1; have Z1 := Lib.hid (Zc.out.below hb); clear Zc; have Zc := Z1; clear Z1
  clear hb
  generalize wm.alloc (.cells #[.int .i64 3, .int .i64 0, .int .u64 9223372036854775808, .string ⟨#[]⟩, .slice XA 0 xc, .slice XB 0 xd] 27) = W9 at AW Za Zb Zc Zd ⊢
  generalize wm.heap.size = gd at Zd ⊢
  clear l0 l1 l2 l3 l4 l5; obtain ⟨l0, l1, l2, l3, l4, l5⟩ := six18 AW.out.L
  have hb := below_drew (Below.refl W9.heap.size W9)
  have AW1 := Lib.hid (AW.out.below hb); clear AW; have AW := AW1; clear AW1; have Z1 := Lib.hid (Za.out.below hb); clear Za; have Za := Z1; clear Z1; have Z1 := Lib.hid (Zb.out.below hb); clear Zb; have Zb := Z1; clear Z1; have Z1 := Lib.hid (Zc.out.below hb); clear Zc; have Zc := Z1; clear Z1; have Z1 := Lib.hid (Zd.out.below hb); clear Zd; have Zd := Z1; clear Z1
  clear hb l0 l1 l2 l3 l4 l5
  obtain ⟨aA, aa, aB, ab, hka⟩ := Za.out
  obtain ⟨a0, a1, a2, a3, a4, a5⟩ := six18 hka
  obtain ⟨bA, ba, bB, bb, hkb⟩ := Zb.out
  obtain ⟨b0, b1, b2, b3, b4, b5⟩ := six18 hkb
  obtain ⟨cA, ca, cB, cb, hkc⟩ := Zc.out
  obtain ⟨c0, c1, c2, c3, c4, c5⟩ := six18 hkc
  obtain ⟨dA, da, dB, db, hkd⟩ := Zd.out
  obtain ⟨d0, d1, d2, d3, d4, d5⟩ := six18 hkd
  have AWo := AW.out
  clear AW Za Zb Zc Zd
  go_region_held3 (fun w' => Aw8 w w' gi gl ∧ w'.heap[ga]? = some (.cells #[.int .i64 2, .int .i64 2, .int .u64 0, .string ⟨#[]⟩, .slice aA 0 aa, .slice aB 0 ab] 27 (0, 0)) ∧ w'.heap[gb]? = some (.cells #[.int .i64 4, .int .i64 0, .int .u64 0, .string ⟨#[120]⟩, .slice bA 0 ba, .slice bB 0 bb] 27 (0, 0)) ∧ w'.heap[gc]? = some (.cells #[.int .i64 4, .int .i64 0, .int .u64 0, .string ⟨#[49, 98, 116, 114, 117, 101]⟩, .slice cA 0 ca, .slice cB 0 cb] 27 (0, 0)) ∧ w'.heap[gd]? = some (.cells #[.int .i64 3, .int .i64 0, .int .u64 9223372036854775808, .string ⟨#[]⟩, .slice dA 0 da, .slice dB 0 db] 27 (0, 0)) ∧ w'.cell? ⟨ga, 0, none⟩ = some (.int .i64 2) ∧ w'.cell? ⟨ga, 1, none⟩ = some (.int .i64 2) ∧ w'.cell? ⟨ga, 2, none⟩ = some (.int .u64 0) ∧ w'.cell? ⟨ga, 3, none⟩ = some (.string ⟨#[]⟩) ∧ w'.cell? ⟨ga, 4, none⟩ = some (.slice aA 0 aa) ∧ w'.cell? ⟨ga, 5, none⟩ = some (.slice aB 0 ab) ∧ w'.cell? ⟨gb, 0, none⟩ = some (.int .i64 4) ∧ w'.cell? ⟨gb, 1, none⟩ = some (.int .i64 0) ∧ w'.cell? ⟨gb, 2, none⟩ = some (.int .u64 0) ∧ w'.cell? ⟨gb, 3, none⟩ = some (.string ⟨#[120]⟩) ∧ w'.cell? ⟨gb, 4, none⟩ = some (.slice bA 0 ba) ∧ w'.cell? ⟨gb, 5, none⟩ = some (.slice bB 0 bb) ∧ w'.cell? ⟨gc, 0, none⟩ = some (.int .i64 4) ∧ w'.cell? ⟨gc, 1, none⟩ = some (.int .i64 0) ∧ w'.cell? ⟨gc, 2, none⟩ = some (.int .u64 0) ∧ w'.cell? ⟨gc, 3, none⟩ = some (.string ⟨#[49, 98, 116, 114, 117, 101]⟩) ∧ w'.cell? ⟨gc, 4, none⟩ = some (.slice cA 0 ca) ∧ w'.cell? ⟨gc, 5, none⟩ = some (.slice cB 0 cb) ∧ w'.cell? ⟨gd, 0, none⟩ = some (.int .i64 3) ∧ w'.cell? ⟨gd, 1, none⟩ = some (.int .i64 0) ∧ w'.cell? ⟨gd, 2, none⟩ = some (.int .u64 9223372036854775808) ∧ w'.cell? ⟨gd, 3, none⟩ = some (.string ⟨#[]⟩) ∧ w'.cell? ⟨gd, 4, none⟩ = some (.slice dA 0 da) ∧ w'.cell? ⟨gd, 5, none⟩ = some (.slice dB 0 db)) (first | exact ⟨AWo, hka, hkb, hkc, hkd, a0, a1, a2, a3, a4, a5, b0, b1, b2, b3, b4, b5, c0, c1, c2, c3, c4, c5, d0, d1, d2, d3, d4, d5⟩ | exact keep18 (by first | assumption | exact And.left (by assumption)) (by first | assumption | exact And.left (And.right (by assumption))) (by first | assumption | exact And.left (And.right (And.right (by assumption)))) (by first | assumption | exact And.left (And.right (And.right (And.right (by assumption))))) (by first | assumption | exact And.left (And.right (And.right (And.right (And.right (by assumption)))))) hb | assumption) (first | (go_at_call 30; (with_reducible refine (CN.out _ _).mono ?_); rintro e wn ⟨rfl, hb⟩) | (go_at_call 31; (with_reducible refine (CT.out _ _).mono ?_); rintro e wn ⟨rfl, hb⟩) | (go_at_call 33; (with_reducible refine (CB.out _ _).mono ?_); rintro e wn ⟨rfl, hb⟩) | (go_at_call 8; (with_reducible refine (num018 _ _).mono ?_); rintro e wn ⟨rfl, hb⟩) | (go_at_call 7; (with_reducible refine (sv8_1 _ _ _ _ _).mono ?_); rintro e wn ⟨rfl, hb⟩) | (go_at_call 7; (with_reducible refine (sv8_2 _ _ _ _ _).mono ?_); rintro e wn ⟨rfl, hb⟩) | (go_at_call 7; (with_reducible refine (sv8_3 _ _ _ _ _).mono ?_); rintro e wn ⟨rfl, hb⟩) | (go_at_call 7; (with_reducible refine (sv8_4 _ _ _ _ _).mono ?_); rintro e wn ⟨rfl, hb⟩))
  all_goals (go_wp2; go_ret; exact ⟨rfl, Aw8.B (by first | assumption | exact And.left (by assumption))⟩)
end Go.Proofs.YtoocfodefbechaaGreatDoor.Fns
