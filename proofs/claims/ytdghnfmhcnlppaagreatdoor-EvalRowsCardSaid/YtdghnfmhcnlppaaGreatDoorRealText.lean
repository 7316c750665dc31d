/- The contracts of package real's functions Whole and Text over this seat's program, under the library's two tables as they are laid at the start. -/
import Derived.Test.YtdghnfmhcnlppaaGreatDoorRealWalks
import Derived.Test.YtdghnfmhcnlppaaGreatDoorShelf
import Derived.Lib.SmallJoins
import Derived.Lib.ItoaMem
import Derived.BigCall
import Derived.BigGuard
import Derived.OwnWalk
import Derived.Lib.AppendIntMem
import Derived.Lib.ItoaLen
namespace Go.Proofs.YtdghnfmhcnlppaaGreatDoor.Real
open Go.RowKit Go.Sort Go.Lib Go.Proofs.YtdghnfmhcnlppaaGreatDoor.RealPure Go.Proofs.YtdghnfmhcnlppaaGreatDoorW.PrintWords
set_option linter.unusedSimpArgs false

/-- The library's tables lie as its initialisers lay them. -/
structure Tabs (w : World) : Prop where
  pow : Lib.TabIs Tryz.prog w "internal/strconv.uint64pow10" .u64 Lib.pow10Tab
  bru : Lib.TabIs Tryz.prog w "math/bits.deBruijn64tab" .u8 (Lib.deBruijn64tab.map fun n : Nat => (n : Int))

theorem gPow : Tryz.prog.globalNamed "internal/strconv.uint64pow10" = some 2 := by kernel_rfl
theorem gBru : Tryz.prog.globalNamed "math/bits.deBruijn64tab" = some 1 := by kernel_rfl

theorem Tabs.below {w w' : World} (h : Tabs w) (hb : Below w.heap.size w w') : Tabs w' :=
  ⟨Joins.tab_stays gPow h.pow hb (Nat.le_refl _), Joins.tab_stays gBru h.bru hb (Nat.le_refl _)⟩

theorem Tabs.bits {w : World} (h : Tabs w) : TabAt 1 Lib.deBruijn64tab w := fun j hj => by
  have hc := Lib.TabIs.cell h.bru gBru j (by rw [List.length_map]; exact hj)
  rw [hc]
  have e : (Lib.deBruijn64tab.map fun n : Nat => (n : Int)).getD j 0 = ((Lib.deBruijn64tab.getD j 0 : Nat) : Int) := by
    simp [List.getD_eq_getElem?_getD, List.getElem?_map, List.getElem?_eq_getElem hj]
  first | rw [e] | (simp [List.getElem_map, List.getD_eq_getElem?_getD, List.getElem?_eq_getElem hj])

theorem holds_zero0 (w : World) (T : TypeId) (nd : Nat) (hs : nd ≤ 24) : Holds (fun (b : UInt8) => Value.int .u8 (b.toNat : Int)) (w.alloc (.cells zeros24 T)) w.heap.size 0 (Array.replicate nd (0 : UInt8)) := fun j hj => by
  rw [Array.size_replicate] at hj
  refine ⟨?_, World.frozen?_alloc_new _ _ _ _⟩
  rw [World.cell?_alloc_new, zeros24_at _ (by omega)]
  simp [hj]

theorem fin_pos0 (w : World) (o : Obj) (dk : Array UInt8) (k : Nat) : ∃ os, (putRow (fun (b : UInt8) => Value.int .u8 (b.toNat : Int)) (w.alloc o) w.heap.size 0 dk).drewN k = grow (w.drewN k) os := by
  rw [alloc_eq_grow]
  obtain ⟨os', _, e⟩ := putRow_grow_new (fun (b : UInt8) => Value.int .u8 (b.toNat : Int)) w #[o] w.heap.size 0 dk (Nat.le_refl _)
  exact ⟨os', by rw [e]; rfl⟩

set_option maxHeartbeats 6400000 in
set_option maxRecDepth 100000 in
/-- internal/strconv.FormatUint at base 10. -/
theorem formatUint (u : Nat) (hu64 : u < 18446744073709551616) (w : World)
    (htab : Lib.TabIs Tryz.prog w "internal/strconv.uint64pow10" .u64 Lib.pow10Tab) :
    Calls Tryz.prog 128 #[.int .u64 u, .int .i64 10] w fun e w' => e = .returned (.string ⟨(Lib.decDigits u).toArray⟩) ∧ ∃ k os, w' = grow (w.drewN k) os := by
  by_cases hs : u < 100
  · go_enter Tryz.func128, Tryz.ntmps128
    go_wp2_with (go_at_call 131; refine (Tryz.internal_strconv_small u hs _).mono ?_; rintro e w' ⟨rfl, rfl⟩)
    go_ret
    exact ⟨rfl, 0, #[], by simp [World.drewN_zero]⟩
  · have hu1 : 1 ≤ u := by omega
    have hnd20 : Lib.nDigits u ≤ 20 := by have := Lib.numDigits_eq u hu1 hu64; split at this <;> omega
    have hb3 : Lib.nDigits u ≤ 23 := by omega
    have hal : Tryz.prog.arrayLen 152 = 24 := by simp [Program.arrayLen, Tryz.underlying152]
    have hsl1 : ∀ W, (Instr.sliceAt 152 (.pointer (some ⟨w.heap.size, 0, none⟩)) none (some (.int .i64 (Lib.nDigits u : Int))) none).run Tryz.prog W = .ok (.slice (some ⟨w.heap.size, 0, none⟩) (Lib.nDigits u) 24) W := fun W => by
      rw [run_sliceAt_array_h W 152 ⟨w.heap.size, 0, none⟩ (by simp [Program.arrayLen, Program.elem, Tryz.underlying152]) .i64 (Lib.nDigits u : Int) (by omega) (by rw [hal]; omega)]
      rw [hal]
      go_simp
    have hH0 := holds_zero0 w 152 (Lib.nDigits u) (by omega)
    have hfmt := Tryz.internal_strconv_formatBase10 w.heap.size 0 24 u (Array.replicate (Lib.nDigits u) 0) (w.alloc (.cells Lib.zeros24 152)) hH0 (by rw [Array.size_replicate]; exact Lib.lt_pow_nDigits u) hu64 (by rw [Array.size_replicate]; omega)
    rw [Array.size_replicate] at hfmt
    have HH0 := Lib.hid hH0
    clear hH0 hal
    have HF := Lib.hid hfmt
    clear hfmt
    go_enter Tryz.func128, Tryz.ntmps128
    go_wp2_with (first
      | (go_at_call 132; refine (Tryz.internal_strconv_numDigits u hu1 hu64 _ (Lib.tabIs_alloc htab _)).mono ?_; rintro e w' ⟨rfl, rfl⟩)
      | (go_at_call 133; refine HF.out.mono ?_; rintro e w' ⟨rfl, k, v', dk, rfl, hF⟩; refine Hid.out ?_))
    refine Lib.hid ?_
    have hcv : (convert 74 9 (.slice (some ⟨w.heap.size, 0, none⟩) (Lib.nDigits u) 24)).run Tryz.prog ((putRow (fun (b : UInt8) => Value.int .u8 (b.toNat : Int)) (w.alloc (.cells Lib.zeros24 152)) w.heap.size 0 dk).drewN k) = .ok (.string ⟨(Lib.decDigits u).toArray⟩) ((putRow (fun (b : UInt8) => Value.int .u8 (b.toNat : Int)) (w.alloc (.cells Lib.zeros24 152)) w.heap.size 0 dk).drewN k) := by
      have h := run_convert_bytes_back (P := Tryz.prog) ((putRow (fun (b : UInt8) => Value.int .u8 (b.toNat : Int)) (w.alloc (.cells Lib.zeros24 152)) w.heap.size 0 dk).drewN k) 74 9 5 ⟨w.heap.size, 0, none⟩ 24 (Lib.decDigits u) Tryz.underlying74 Tryz.underlying5 Tryz.underlying9 (fun j hj => by
        rw [Lib.row_is_numeral hF j hj, Lib.add_plain, World.cell?_drewN]
        exact cell?_putRow (fun (b : UInt8) => Value.int .u8 (b.toNat : Int)) _ w.heap.size 0 _ dk HH0.out (by rw [hF.size, Array.size_replicate]) j (by rw [hF.size]; rw [Lib.decDigits_length] at hj; exact hj))
      rw [Lib.decDigits_length] at h
      exact h
    go_wp2
    go_ret
    obtain ⟨os, eo⟩ := fin_pos0 w (.cells Lib.zeros24 152) dk k
    exact ⟨rfl, k, os, eo⟩

theorem convert_whole (b : Nat) (hk : kindN b = 3 ∨ kindN b = 2) (W : World) : (convert 111 3 (.float .f64 b)).run Tryz.prog W = .ok (.int .i64 (wholeI b)) W := by
  obtain ⟨h1, h2⟩ := toInt_whole b hk
  refine run_convert_float_int W 111 3 .f64 .i64 b (wholeI b) (by rw [Tryz.underlying111]; rfl) Tryz.underlying3 ?_
  have hb : -(2 ^ 53 : Int) ≤ wholeI b ∧ wholeI b ≤ 2 ^ 53 := by unfold wholeI; split <;> omega
  unfold floatToIntVal
  have e : (FloatKind.f64.decode b).toInt .zero = some (wholeI b) := h1
  rw [e]
  have c : IntKind.min .i64 ≤ wholeI b ∧ wholeI b ≤ IntKind.max .i64 := by
    have m1 : IntKind.min .i64 = -9223372036854775808 := by decide
    have m2 : IntKind.max .i64 = 9223372036854775807 := by decide
    rw [m1, m2]; omega
  simp only [c, and_self, if_true]


theorem and52 (b : Nat) (hb : b < 2 ^ 64) : bits BinOp.and IntKind.u64 (b : Int) 4503599627370495 = ((b % 2 ^ 52 : Nat) : Int) := by
  rw [show (4503599627370495 : Int) = ((4503599627370495 : Nat) : Int) from rfl, u64_and_nat b 4503599627370495 hb (by decide)]
  congr 1
  exact Nat.and_two_pow_sub_one_eq_mod b 52

theorem and11 (b : Nat) (hb : b < 2 ^ 64) : bits BinOp.and IntKind.u64 ((b : Int) / 4503599627370496) 2047 = ((b / 2 ^ 52 % 2048 : Nat) : Int) := by
  rw [show ((b : Int) / 4503599627370496) = ((b / 4503599627370496 : Nat) : Int) by omega, show (2047 : Int) = ((2047 : Nat) : Int) from rfl, u64_and_nat _ 2047 (by omega) (by decide)]
  congr 1
  exact Nat.and_two_pow_sub_one_eq_mod _ 11

theorem or52 (m : Nat) (hm : m < 2 ^ 52) : bits BinOp.or IntKind.u64 (m : Int) 4503599627370496 = ((m + 2 ^ 52 : Nat) : Int) := by
  rw [show (4503599627370496 : Int) = ((4503599627370496 : Nat) : Int) from rfl, u64_or_nat m 4503599627370496 (by omega) (by decide)]
  congr 1
  rw [show 4503599627370496 = 2 ^ 52 from rfl, Nat.or_two_pow_eq_add_of_lt hm]

/-- A finite word's digits and their place, as the text of the program takes them. -/
def mant (b : Nat) : Nat := if b / 2 ^ 52 % 2048 = 0 then b % 2 ^ 52 else b % 2 ^ 52 + 2 ^ 52
def expo (b : Nat) : Int := if b / 2 ^ 52 % 2048 = 0 then -1074 else (b / 2 ^ 52 % 2048 : Nat) - 1075
def oddN (b : Nat) : Nat := mant b / 2 ^ Lib.ctz 64 (mant b)
def powI (b : Nat) : Int := expo b + Lib.ctz 64 (mant b)

theorem ctz_le (x : Nat) (hx : x < 18446744073709551616) : Lib.ctz 64 x ≤ 64 := by
  by_cases h : x = 0
  · subst h; decide
  · exact Nat.le_of_lt (Lib.lowest_bit 64 x h hx).2

set_option maxRecDepth 100000 in
theorem parts_pos (b M E q c : Nat) (w : World) (a1 : bits BinOp.and IntKind.u64 (b : Int) 4503599627370495 = (M : Int)) (a2 : bits BinOp.and IntKind.u64 ((b : Int) / 4503599627370496) 2047 = (E : Int))
    (a3 : bits BinOp.or IntKind.u64 (M : Int) 4503599627370496 = (q : Int)) (hE0 : 0 < E) (hE : E < 2048) (hc : c ≤ 64)
    (CT' : Hid (Calls Tryz.prog 127 #[.int .u64 q] w fun e w' => e = .returned (.int .i64 c) ∧ w' = w)) :
    Calls Tryz.prog 120 #[.int .u64 b] w fun e w' => e = .returned (.tuple #[.int .u64 ((q / 2 ^ c : Nat) : Int), .int .i64 ((E : Int) - 1075 + c)]) ∧ w' = w := by
  go_enter Tryz.func120, Tryz.ntmps120
  go_wp2_with (go_at_call 127; refine CT'.out.mono ?_; rintro e w' ⟨rfl, rfl⟩)
  go_ret2
  exact ⟨by rw [Int.natCast_ediv, Int.natCast_pow]; rfl, rfl⟩

set_option maxRecDepth 100000 in
theorem parts_none (b M c : Nat) (w : World) (a1 : bits BinOp.and IntKind.u64 (b : Int) 4503599627370495 = (M : Int)) (a2 : bits BinOp.and IntKind.u64 ((b : Int) / 4503599627370496) 2047 = 0) (hc : c ≤ 64)
    (CT' : Hid (Calls Tryz.prog 127 #[.int .u64 M] w fun e w' => e = .returned (.int .i64 c) ∧ w' = w)) :
    Calls Tryz.prog 120 #[.int .u64 b] w fun e w' => e = .returned (.tuple #[.int .u64 ((M / 2 ^ c : Nat) : Int), .int .i64 (-1074 + c)]) ∧ w' = w := by
  go_enter Tryz.func120, Tryz.ntmps120
  go_wp2_with (go_at_call 127; refine CT'.out.mono ?_; rintro e w' ⟨rfl, rfl⟩)
  go_ret2
  exact ⟨by rw [Int.natCast_ediv, Int.natCast_pow]; rfl, rfl⟩

theorem parts_any (b : Nat) (hb : b < 2 ^ 64) (w : World) (hT : Tabs w) : Calls Tryz.prog 120 #[.int .u64 b] w fun e w' => e = .returned (.tuple #[.int .u64 (oddN b), .int .i64 (powI b)]) ∧ w' = w := by
  have a1 := and52 b hb
  have a2 := and11 b hb
  have hM : b % 2 ^ 52 < 2 ^ 52 := Nat.mod_lt _ (by decide)
  have hE : b / 2 ^ 52 % 2048 < 2048 := Nat.mod_lt _ (by decide)
  have a3 := or52 (b % 2 ^ 52) hM
  by_cases h0 : b / 2 ^ 52 % 2048 = 0
  · have hm : mant b = b % 2 ^ 52 := by unfold mant; rw [if_pos h0]
    have he : expo b = -1074 := by unfold expo; rw [if_pos h0]
    unfold oddN powI
    rw [hm, he]
    rw [h0] at a2
    exact parts_none b _ _ w a1 a2 (ctz_le _ (by omega)) (Lib.hid (Tryz.bits_TrailingZeros64 _ (by omega) w (fun _ => hT.bits)))
  · have hm : mant b = b % 2 ^ 52 + 2 ^ 52 := by unfold mant; rw [if_neg h0]
    have he : expo b = (b / 2 ^ 52 % 2048 : Nat) - 1075 := by unfold expo; rw [if_neg h0]
    unfold oddN powI
    rw [hm, he]
    exact parts_pos b _ _ _ _ w a1 a2 a3 (by omega) hE (ctz_le _ (by omega)) (Lib.hid (Tryz.bits_TrailingZeros64 _ (by omega) w (fun _ => hT.bits)))

theorem neg_word (b : Nat) (_hb : b < 2 ^ 64) : decide (wrap64 (b : Int) < 0) = decide (b / 2 ^ 63 % 2 = 1) := by
  have h : (wrap64 (b : Int) < 0) ↔ (b / 2 ^ 63 % 2 = 1) := by unfold wrap64; omega
  exact decide_eq_decide.2 h

theorem signbit_calls (b : Nat) (hb : b < 2 ^ 64) (w : World) : Calls Tryz.prog 119 #[.float .f64 b] w fun e w' => e = .returned (.bool (decide (b / 2 ^ 63 % 2 = 1))) ∧ w' = w := by
  have e1 := tobits b
  go_enter Tryz.func119, Tryz.ntmps119
  go_wp2
  go_ret
  refine ⟨?_, rfl⟩
  rw [← neg_word b hb]
  rfl

/-- A word's text, byte by byte. -/
def signL (b : Nat) : List UInt8 := if b / 2 ^ 63 % 2 = 1 then [45] else []
def textL (b : Nat) : List UInt8 :=
  if kindN b = 0 then [78, 97, 78]
  else if kindN b = 1 then signL b ++ [73, 110, 102, 105, 110, 105, 116, 121]
  else if kindN b = 2 then signL b ++ [48]
  else if kindN b = 3 then Lib.itoa (wholeI b)
  else signL b ++ Lib.decDigits (oddN b) ++ [112] ++ Lib.itoa (powI b)

theorem ba_append (a b : Array UInt8) : (⟨a⟩ : ByteArray) ++ ⟨b⟩ = ⟨a ++ b⟩ := by
  refine ByteArray.ext ?_
  rw [ByteArray.data_append]

theorem kind_range (b : Nat) : kindN b = 0 ∨ kindN b = 1 ∨ kindN b = 2 ∨ kindN b = 3 ∨ kindN b = 4 := by
  unfold kindN
  split
  · split <;> simp
  · split
    · simp
    · split <;> simp

set_option maxRecDepth 100000 in
/-- The roads of real.Text that tell a constant. -/
theorem text_const (b : Nat) (hb : b < 2 ^ 64) (w : World) (hk : kindN b = 0 ∨ kindN b = 1 ∨ kindN b = 2) :
    Calls Tryz.prog 107 #[.int .u64 b] w fun e w' => e = .returned (.string ⟨(textL b).toArray⟩) ∧ w' = w := by
  have e1 := frombits b
  rw [Int.toNat_natCast] at e1
  have CS := signbit_calls b hb w
  have CK := kind_any b hb w
  by_cases hs : b / 2 ^ 63 % 2 = 1
  · have hsl : signL b = [45] := by unfold signL; rw [if_pos hs]
    rw [decide_eq_true hs] at CS
    rcases hk with hk | hk | hk
    · have ht : textL b = [78, 97, 78] := by unfold textL; rw [hk]; rfl
      rw [ht]; rw [hk] at CK; clear ht hsl hs hk
      have CS' := Lib.hid CS; have CK' := Lib.hid CK; clear CS CK
      go_enter Tryz.func107, Tryz.ntmps107
      go_wp2_with (first | (go_at_call 119; refine CS'.out.mono ?_; rintro e w' ⟨rfl, rfl⟩) | (go_at_call 84; refine CK'.out.mono ?_; rintro e w' ⟨rfl, rfl⟩))
      go_ret
      exact ⟨rfl, rfl⟩
    · have ht : textL b = [45, 73, 110, 102, 105, 110, 105, 116, 121] := by unfold textL; rw [hk, hsl]; rfl
      rw [ht]; rw [hk] at CK; clear ht hsl hs hk
      have CS' := Lib.hid CS; have CK' := Lib.hid CK; clear CS CK
      go_enter Tryz.func107, Tryz.ntmps107
      go_wp2_with (first | (go_at_call 119; refine CS'.out.mono ?_; rintro e w' ⟨rfl, rfl⟩) | (go_at_call 84; refine CK'.out.mono ?_; rintro e w' ⟨rfl, rfl⟩))
      go_ret
      exact ⟨rfl, rfl⟩
    · have ht : textL b = [45, 48] := by unfold textL; rw [hk, hsl]; rfl
      rw [ht]; rw [hk] at CK; clear ht hsl hs hk
      have CS' := Lib.hid CS; have CK' := Lib.hid CK; clear CS CK
      go_enter Tryz.func107, Tryz.ntmps107
      go_wp2_with (first | (go_at_call 119; refine CS'.out.mono ?_; rintro e w' ⟨rfl, rfl⟩) | (go_at_call 84; refine CK'.out.mono ?_; rintro e w' ⟨rfl, rfl⟩))
      go_ret
      exact ⟨rfl, rfl⟩
  · have hsl : signL b = [] := by unfold signL; rw [if_neg hs]
    rw [decide_eq_false hs] at CS
    rcases hk with hk | hk | hk
    · have ht : textL b = [78, 97, 78] := by unfold textL; rw [hk]; rfl
      rw [ht]; rw [hk] at CK; clear ht hsl hs hk
      have CS' := Lib.hid CS; have CK' := Lib.hid CK; clear CS CK
      go_enter Tryz.func107, Tryz.ntmps107
      go_wp2_with (first | (go_at_call 119; refine CS'.out.mono ?_; rintro e w' ⟨rfl, rfl⟩) | (go_at_call 84; refine CK'.out.mono ?_; rintro e w' ⟨rfl, rfl⟩))
      go_ret
      exact ⟨rfl, rfl⟩
    · have ht : textL b = [73, 110, 102, 105, 110, 105, 116, 121] := by unfold textL; rw [hk, hsl]; rfl
      rw [ht]; rw [hk] at CK; clear ht hsl hs hk
      have CS' := Lib.hid CS; have CK' := Lib.hid CK; clear CS CK
      go_enter Tryz.func107, Tryz.ntmps107
      go_wp2_with (first | (go_at_call 119; refine CS'.out.mono ?_; rintro e w' ⟨rfl, rfl⟩) | (go_at_call 84; refine CK'.out.mono ?_; rintro e w' ⟨rfl, rfl⟩))
      go_ret
      exact ⟨rfl, rfl⟩
    · have ht : textL b = [48] := by unfold textL; rw [hk, hsl]; rfl
      rw [ht]; rw [hk] at CK; clear ht hsl hs hk
      have CS' := Lib.hid CS; have CK' := Lib.hid CK; clear CS CK
      go_enter Tryz.func107, Tryz.ntmps107
      go_wp2_with (first | (go_at_call 119; refine CS'.out.mono ?_; rintro e w' ⟨rfl, rfl⟩) | (go_at_call 84; refine CK'.out.mono ?_; rintro e w' ⟨rfl, rfl⟩))
      go_ret
      exact ⟨rfl, rfl⟩

theorem wholeI_range (b : Nat) (hk : kindN b = 3 ∨ kindN b = 2) : -9223372036854775808 ≤ wholeI b ∧ wholeI b ≤ 9223372036854775807 := by
  obtain ⟨-, h2⟩ := toInt_whole b hk
  unfold wholeI; split <;> omega

set_option maxRecDepth 100000 in
theorem text_whole (b : Nat) (hb : b < 2 ^ 64) (w : World) (hT : Tabs w) (hk : kindN b = 3) :
    Calls Tryz.prog 107 #[.int .u64 b] w fun e w' => e = .returned (.string ⟨(textL b).toArray⟩) ∧ ∃ k os, w' = grow (w.drewN k) os := by
  have e1 := frombits b
  rw [Int.toNat_natCast] at e1
  have e2 := convert_whole b (.inl hk)
  obtain ⟨r0, r1⟩ := wholeI_range b (.inl hk)
  have CS := signbit_calls b hb w
  have CK := kind_any b hb w
  have CI := Tryz.strconv_Itoa (wholeI b) r0 r1 w hT.pow
  have ht : textL b = Lib.itoa (wholeI b) := by unfold textL; rw [hk]; rfl
  rw [ht]; rw [hk] at CK
  clear ht hk r0 r1
  generalize wholeI b = x at e2 CI ⊢
  have CK' := Lib.hid CK; have CI' := Lib.hid CI; clear CK CI
  by_cases hs : b / 2 ^ 63 % 2 = 1
  · rw [decide_eq_true hs] at CS
    have CS' := Lib.hid CS; clear CS hs
    go_enter Tryz.func107, Tryz.ntmps107
    go_wp2_with (first | (go_at_call 119; refine CS'.out.mono ?_; rintro e w' ⟨rfl, rfl⟩) | (go_at_call 84; refine CK'.out.mono ?_; rintro e w' ⟨rfl, rfl⟩) | (go_at_call 106; refine CI'.out.mono ?_; rintro e w' ⟨rfl, k, os, rfl⟩))
    go_ret
    exact ⟨rfl, _, _, rfl⟩
  · rw [decide_eq_false hs] at CS
    have CS' := Lib.hid CS; clear CS hs
    go_enter Tryz.func107, Tryz.ntmps107
    go_wp2_with (first | (go_at_call 119; refine CS'.out.mono ?_; rintro e w' ⟨rfl, rfl⟩) | (go_at_call 84; refine CK'.out.mono ?_; rintro e w' ⟨rfl, rfl⟩) | (go_at_call 106; refine CI'.out.mono ?_; rintro e w' ⟨rfl, k, os, rfl⟩))
    go_ret
    exact ⟨rfl, _, _, rfl⟩

theorem formatUint_pub (u : Nat) (hu64 : u < 18446744073709551616) (w : World) (htab : Lib.TabIs Tryz.prog w "internal/strconv.uint64pow10" .u64 Lib.pow10Tab) :
    Calls Tryz.prog 121 #[.int .u64 u, .int .i64 10] w fun e w' => e = .returned (.string ⟨(Lib.decDigits u).toArray⟩) ∧ Below w.heap.size w w' := by
  have CF := Lib.hid (formatUint u hu64 w htab)
  clear htab
  go_enter Tryz.func121, Tryz.ntmps121
  go_wp2_with (go_at_call 128; refine CF.out.mono ?_; rintro e w' ⟨rfl, k, os, rfl⟩)
  go_ret
  exact ⟨rfl, Lib.below_grow _ _ (Nat.le_refl _) _ _⟩

theorem powI_range (b : Nat) : -1074 ≤ powI b ∧ powI b ≤ 1036 ∧ oddN b < 2 ^ 53 := by
  have hm : mant b < 2 ^ 53 := by unfold mant; split <;> omega
  have hc := ctz_le (mant b) (by omega)
  have h1 : mant b / 2 ^ Lib.ctz 64 (mant b) ≤ mant b := Nat.div_le_self _ _
  unfold powI oddN expo
  split <;> omega

set_option maxRecDepth 100000 in
theorem text_other (b : Nat) (hb : b < 2 ^ 64) (w : World) (hT : Tabs w) (hk : kindN b = 4) :
    Calls Tryz.prog 107 #[.int .u64 b] w fun e w' => e = .returned (.string ⟨(textL b).toArray⟩) ∧ Below w.heap.size w w' := by
  have e1 := frombits b
  rw [Int.toNat_natCast] at e1
  obtain ⟨p0, p1, o1⟩ := powI_range b
  have CS := signbit_calls b hb w
  have CK := kind_any b hb w
  have CP := parts_any b hb w hT
  have CF := formatUint_pub (oddN b) (by omega) w hT.pow
  have CI : ∀ W, Tabs W → Calls Tryz.prog 106 #[.int .i64 (powI b)] W fun e w' => e = .returned (.string ⟨(Lib.itoa (powI b)).toArray⟩) ∧ ∃ k os, w' = grow (W.drewN k) os := fun W h => Tryz.strconv_Itoa (powI b) (by omega) (by omega) W h.pow
  have ht : textL b = signL b ++ Lib.decDigits (oddN b) ++ [112] ++ Lib.itoa (powI b) := by unfold textL; rw [hk]; rfl
  have l1 : (Lib.decDigits (oddN b)).length ≤ 20 := by
    rw [Lib.decDigits_length]
    by_cases h1 : 1 ≤ oddN b
    · have := Lib.numDigits_eq (oddN b) h1 (by omega); split at this <;> omega
    · have : oddN b = 0 := by omega
      rw [this]; decide +kernel
  have l2 := Lib.itoa_length_le (powI b) (by omega) (by omega)
  rw [ht]; rw [hk] at CK
  clear ht hk p0 p1 o1
  generalize powI b = x at CP CI l2 ⊢
  generalize oddN b = y at CP CF l1 ⊢
  generalize Lib.decDigits y = Y at CF l1 ⊢
  generalize Lib.itoa x = X at CI l2 ⊢
  have CK' := Lib.hid CK; have CI' := Lib.hid CI; have CP' := Lib.hid CP; have CF' := Lib.hid CF; have HT := Lib.hid hT; clear CK CI CP CF hT
  by_cases hs : b / 2 ^ 63 % 2 = 1
  · have hsl : signL b = [45] := by unfold signL; rw [if_pos hs]
    rw [hsl]
    rw [decide_eq_true hs] at CS
    have CS' := Lib.hid CS; clear CS hs hsl
    go_enter Tryz.func107, Tryz.ntmps107
    go_wp2_with (first | (go_at_call 119; refine CS'.out.mono ?_; rintro e w' ⟨rfl, rfl⟩) | (go_at_call 84; refine CK'.out.mono ?_; rintro e w' ⟨rfl, rfl⟩) | (go_at_call 120; refine CP'.out.mono ?_; rintro e w' ⟨rfl, rfl⟩) | (go_at_call 121; refine CF'.out.mono ?_; rintro e w1 ⟨rfl, hb1⟩; have HB1 := Lib.hid hb1; clear hb1) | (go_at_call 106; refine (CI'.out _ (HT.out.below HB1.out)).mono ?_; rintro e w2 ⟨rfl, k, os, rfl⟩))
    go_ret
    refine ⟨by simp [ba_append], HB1.out.trans (Lib.below_grow _ _ (HB1.out.size) _ _)⟩
  · have hsl : signL b = [] := by unfold signL; rw [if_neg hs]
    rw [hsl]
    rw [decide_eq_false hs] at CS
    have CS' := Lib.hid CS; clear CS hs hsl
    go_enter Tryz.func107, Tryz.ntmps107
    go_wp2_with (first | (go_at_call 119; refine CS'.out.mono ?_; rintro e w' ⟨rfl, rfl⟩) | (go_at_call 84; refine CK'.out.mono ?_; rintro e w' ⟨rfl, rfl⟩) | (go_at_call 120; refine CP'.out.mono ?_; rintro e w' ⟨rfl, rfl⟩) | (go_at_call 121; refine CF'.out.mono ?_; rintro e w1 ⟨rfl, hb1⟩; have HB1 := Lib.hid hb1; clear hb1) | (go_at_call 106; refine (CI'.out _ (HT.out.below HB1.out)).mono ?_; rintro e w2 ⟨rfl, k, os, rfl⟩))
    go_ret
    refine ⟨by simp [ba_append], HB1.out.trans (Lib.below_grow _ _ (HB1.out.size) _ _)⟩

/-! ### in the form of the kit's print -/
def real_Kind.f (a0 : Int) : Option Int := if 0 ≤ a0 ∧ a0 < 2 ^ 64 then some (kindN a0.toNat) else none
theorem real_Kind.calls (a0 : Int) (r : Int) (w : World) (h : real_Kind.f a0 = some r) :
    Calls Tryz.prog 84 #[.int .u64 a0] w fun e w' => e = .returned (.int .i64 r) ∧ Drawn0 w w' := by
  unfold real_Kind.f at h
  split at h
  · rename_i hb
    cases h
    obtain ⟨b, rfl⟩ : ∃ b : Nat, a0 = b := ⟨a0.toNat, by omega⟩
    refine (kind_any b (by omega) w).mono ?_
    rintro e w' ⟨rfl, rfl⟩
    exact ⟨rfl, Drawn0.refl _⟩
  · cases h


def real_Text.f (a0 : Int) : Option ByteArray := if 0 ≤ a0 ∧ a0 < 2 ^ 64 then some ⟨(textL a0.toNat).toArray⟩ else none
theorem real_Text.calls (a0 : Int) (r : ByteArray) (w : World) (hT : Tabs w) (h : real_Text.f a0 = some r) :
    Calls Tryz.prog 107 #[.int .u64 a0] w fun e w' => e = .returned (.string r) ∧ Below w.heap.size w w' := by
  unfold real_Text.f at h
  split at h
  · rename_i hb
    cases h
    obtain ⟨b, rfl⟩ : ∃ b : Nat, a0 = b := ⟨a0.toNat, by omega⟩
    rw [Int.toNat_natCast]
    rcases kind_range b with hk | hk | hk | hk | hk
    · exact (text_const b (by omega) w (.inl hk)).mono fun e w' ⟨h1, h2⟩ => ⟨h1, by rw [h2]; exact Below.refl _ _⟩
    · exact (text_const b (by omega) w (.inr (.inl hk))).mono fun e w' ⟨h1, h2⟩ => ⟨h1, by rw [h2]; exact Below.refl _ _⟩
    · exact (text_const b (by omega) w (.inr (.inr hk))).mono fun e w' ⟨h1, h2⟩ => ⟨h1, by rw [h2]; exact Below.refl _ _⟩
    · exact (text_whole b (by omega) w hT hk).mono fun e w' ⟨h1, k, os, h2⟩ => ⟨h1, by rw [h2]; exact Lib.below_grow _ _ (Nat.le_refl _) _ _⟩
    · exact text_other b (by omega) w hT hk
  · cases h
end Go.Proofs.YtdghnfmhcnlppaaGreatDoor.Real
