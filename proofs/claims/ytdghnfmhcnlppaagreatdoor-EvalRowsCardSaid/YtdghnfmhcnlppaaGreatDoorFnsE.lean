/- The text builder of package strings, walked at this seat: copyCheck, WriteString. · Package fns, walked: cat. -/
import Derived.Test.YtdghnfmhcnlppaaGreatDoorFnsC
import Derived.Lib.Builder
import Derived.Lib.AppendStr
import Derived.Lib.UnsafeStr
import Derived.Laws.Externs
import Derived.Test.YtdghnfmhcnlppaaGreatDoorValuesK
import Derived.Lib.ItoaLen
namespace Go.Proofs.YtdghnfmhcnlppaaGreatDoor.Fns
open Go.RowKit Go.Proofs.YtdghnfmhcnlppaaGreatDoor.Q Go.Proofs.YtdghnfmhcnlppaaGreatDoor.Real Go.Proofs.YtdghnfmhcnlppaaGreatDoor.RealPure Go.Proofs.YtdghnfmhcnlppaaGreatDoor.Values Go.Proofs.YtdghnfmhcnlppaaGreatDoorW.PrintWords Go.Proofs.YtdghnfmhcnlppaaGreatDoorW.PrintLast Go.Proofs.YtdghnfmhcnlppaaGreatDoorW.PrintMore
set_option linter.unusedSimpArgs false
set_option linter.unusedVariables false

theorem size_builder : (Tryz.prog.info? 115).map (·.size) = some 2 := by kernel_rfl
set_option maxHeartbeats 4000000 in
set_option maxRecDepth 100000 in
theorem check_used (b : Nat) (w : World) (h0 : w.cell? ⟨b, 0, none⟩ = some (.pointer (some ⟨b, 0, none⟩))) : Calls Tryz.prog 108 #[.pointer (some ⟨b, 0, none⟩)] w fun e w' => e = .returned (.tuple #[]) ∧ w' = w := by
  obtain ⟨j, hj, _⟩ := Option.map_eq_some_iff.1 size_builder
  go_enter Tryz.func108, Tryz.ntmps108
  go_wp2
  rw [Lib.run_neq_ptr_same w _ Tryz.underlying113 hj]
  go_wp2
  go_end0
  exact ⟨rfl, rfl⟩
set_option maxHeartbeats 4000000 in
set_option maxRecDepth 100000 in
theorem check_fresh (b : Nat) (w : World) (h0 : w.cell? ⟨b, 0, none⟩ = some (.pointer none)) (hsh : w.shape? b = some (115, 2)) (hfz : w.frozen? ⟨b, 0, none⟩ = false) :
    Calls Tryz.prog 108 #[.pointer (some ⟨b, 0, none⟩)] w fun e w' => e = .returned (.tuple #[]) ∧ w' = w.setCell ⟨b, 0, none⟩ (.pointer (some ⟨b, 0, none⟩)) := by
  obtain ⟨j, hj, hjs⟩ := Option.map_eq_some_iff.1 size_builder
  go_enter Tryz.func108, Tryz.ntmps108
  go_wp2
  rw [Lib.run_to_unsafe w ⟨b, 0, none⟩ Tryz.underlying113 Tryz.underlying144 hj (by rw [hjs]; decide) hsh (Nat.zero_lt_succ 1)]
  simp only [Result.andThen]
  rw [Oper.upon_value]
  go_wp2
  rw [run_callFunc_extern Tryz.func122 (by kernel_rfl) (by kernel_rfl) (by kernel_rfl) (e := Extern.AbiNoEscape.same) (by kernel_rfl)]
  rw [Lib.run_noEscape]
  simp only [Result.andThen]
  rw [Oper.upon_value]
  go_wp2
  rw [Lib.run_from_unsafe w ⟨b, 0, none⟩ Tryz.underlying144 Tryz.underlying113 hj hsh (by kernel_rfl)]
  simp only [Result.andThen]
  rw [Oper.upon_value]
  go_wp2
  go_end0
  exact ⟨rfl, rfl⟩
theorem check_calls (B b : Nat) (bs : List Value) (w : World) (h : Lib.IsBuilder 115 5 B b bs w) :
    Calls Tryz.prog 108 #[.pointer (some ⟨b, 0, none⟩)] w fun e w' => e = .returned (.tuple #[]) ∧ (Lib.BuilderAt 115 5 B b (.pointer (some ⟨b, 0, none⟩)) bs w' ∧ Below B w w') := by
  rcases h with h | h
  · refine (check_fresh b w h.cell0 h.shape h.frozen0).mono ?_
    rintro e w' ⟨rfl, rfl⟩
    exact ⟨rfl, h.used _, (Below.refl B w).setCell (p := ⟨b, 0, none⟩) h.1 _⟩
  · refine (check_used b w h.cell0).mono ?_
    rintro e w' ⟨rfl, rfl⟩
    exact ⟨rfl, h, Below.refl B _⟩

set_option maxHeartbeats 4000000 in
set_option maxRecDepth 100000 in
theorem write_calls (B b : Nat) (bs : List Value) (s : ByteArray) (w : World) (h : Lib.IsBuilder 115 5 B b bs w) (hlen : bs.length + s.size ≤ 140737488355328) (hBw : B ≤ w.heap.size) :
    Calls Tryz.prog 87 #[.pointer (some ⟨b, 0, none⟩), .string s] w fun e w' => e = .returned (.tuple #[.int .i64 s.size, .nilIface]) ∧ (Lib.IsBuilder 115 5 B b (bs ++ Lib.strCells s) w' ∧ Below B w w') := by
  obtain ⟨i0, hi, hz0, hz1, hz2⟩ := info_parts (by kernel_rfl : (Tryz.prog.info? 5).map (fun i => (i.zero, i.size, i.bytes)) = some (some (.int .u8 0), 1, 1))
  have CC := Lib.hid (check_calls B b bs w h)
  go_enter Tryz.func87, Tryz.ntmps87
  go_wp2_with (go_at_call 108; refine CC.out.mono ?_)
  rintro e w1 ⟨rfl, h1, hb1⟩
  obtain ⟨hB, v, hbk, hown, hne⟩ := h1
  have c0 : w1.cell? ⟨b, 0, none⟩ = some (.pointer (some ⟨b, 0, none⟩)) := by rw [Lib.cell_of_heap hbk]; rfl
  have c1 : w1.cell? ⟨b, 1, none⟩ = some v := by rw [Lib.cell_of_heap hbk]; rfl
  go_wp2_with (at_builtin; refine Lib.wpList_append_own_string _ rfl _ _ 74 9 rfl B 5 i0 Tryz.underlying74 Tryz.underlying9 hi hz0 hz1 hz2 _ _ _ rfl hown s rfl ?c3 ?c4 ?c5 ?_)
  case c3 => unfold maxLen; omega
  case c4 => omega
  case c5 => have := hb1.size; omega
  intro v' w2 hown' hgrow _
  have hlt : b < w1.heap.size := blk_lt hbk
  have hb2 : w2.heap[b]? = some (.cells #[.pointer (some ⟨b, 0, none⟩), v] 115 (0, 0)) := by
    rw [hgrow.block b hlt (fun e => hne e.symm)]
    exact hbk
  have d0 : w2.cell? ⟨b, 0, none⟩ = some (.pointer (some ⟨b, 0, none⟩)) := by rw [Lib.cell_of_heap hb2]; rfl
  have d1 : w2.cell? ⟨b, 1, none⟩ = some v := by rw [Lib.cell_of_heap hb2]; rfl
  have f1 : w2.frozen? ⟨b, 1, none⟩ = false := Lib.frozen_of_heap hb2 1
  obtain ⟨ao, n', cap, rfl⟩ : ∃ ao n' cap, v' = .slice ao n' cap := by
    rcases hown'.2 with ⟨hv, _⟩ | ⟨g, cap, cur, hv, _⟩
    · exact ⟨_, _, _, hv⟩
    · exact ⟨_, _, _, hv⟩
  go_wp2
  go_ret2
  refine ⟨rfl, .inr ?_, ?_⟩
  · exact Lib.BuilderAt.put (T := 115) (e := 5) hB hb2 (bs' := bs ++ Lib.strCells s) (by simpa [Lib.strCells_length] using hown') (by decide)
  · exact (hb1.grown hgrow (by have := hb1.size; omega) (fun k hk => (hown.lt k hk).1)).setCell (p := ⟨b, 1, none⟩) hB _
end Go.Proofs.YtdghnfmhcnlppaaGreatDoor.Fns
namespace Go.Proofs.YtdghnfmhcnlppaaGreatDoor.Fns
open Go.RowKit Go.Proofs.YtdghnfmhcnlppaaGreatDoor.Q Go.Proofs.YtdghnfmhcnlppaaGreatDoor.Real Go.Proofs.YtdghnfmhcnlppaaGreatDoor.RealPure Go.Proofs.YtdghnfmhcnlppaaGreatDoor.Values Go.Proofs.YtdghnfmhcnlppaaGreatDoorW.PrintWords Go.Proofs.YtdghnfmhcnlppaaGreatDoorW.PrintLast Go.Proofs.YtdghnfmhcnlppaaGreatDoorW.PrintMore
set_option linter.unusedSimpArgs false
set_option linter.unusedVariables false

def textV (s : ByteArray) : V := ⟨4, 0, 0, s, [], []⟩
/-- cat, some bytes being there; lg: too many. -/
def catL : List V → List UInt8 → Bool → V × Int
  | [], acc, lg => if lg = true then (z27, 1803) else (textV ⟨acc.toArray⟩, 0)
  | x :: xs, acc, lg => if saidE x = 0 then (if (lg || decide (65536 < ((acc.length : Int) + ((saidS x).size : Int)))) = true then catL xs acc true else catL xs (acc ++ (saidS x).data.toList) false) else (z27, 1802)
def catR (args : List V) : V × Int := catL args [] false
theorem catL_drop (acc : List UInt8) (lg : Bool) (xs : List V) (i : Nat) (hi : i < xs.length) :
    catL (xs.drop i) acc lg = if saidE (rd_T27 xs i) = 0 then (if (lg || decide (65536 < ((acc.length : Int) + ((saidS (rd_T27 xs i)).size : Int)))) = true then catL (xs.drop (i + 1)) acc true else catL (xs.drop (i + 1)) (acc ++ (saidS (rd_T27 xs i)).data.toList) false) else (z27, 1802) := by
  have e : xs.drop i = rd_T27 xs i :: xs.drop (i + 1) := by
    rw [List.drop_eq_getElem_cons hi]
    congr 1
    unfold rd_T27
    simp [hi]
  rw [e]; rfl

theorem size_list (l : List UInt8) : (⟨l.toArray⟩ : ByteArray).size = l.length := by
  show l.toArray.size = l.length
  simp
theorem odd_lt (b : Nat) : oddN b < 2 ^ 53 := by
  unfold oddN
  have h : mant b < 2 ^ 53 := by unfold mant; split <;> omega
  exact Nat.lt_of_le_of_lt (Nat.div_le_self _ _) h
theorem digits_20 (v : Nat) (hv : v < 2 ^ 63) : (Lib.decDigits v).length ≤ 21 := by
  have := Lib.itoa_length_le (v : Int) (by omega) (by omega)
  rwa [Lib.itoa_nonneg] at this
theorem text_len (b : Nat) : (textL b).length ≤ 100 := by
  have hs : (signL b).length ≤ 1 := by unfold signL; split <;> simp
  unfold textL
  split
  · simp
  split
  · simp; omega
  split
  · simp; omega
  split
  · rename_i h3
    have r := wholeI_range b (.inl h3)
    have := Lib.itoa_length_le (wholeI b) r.1 r.2
    omega
  · have h1 := digits_20 (oddN b) (by have := odd_lt b; omega)
    have h2 : -2000 ≤ powI b ∧ powI b ≤ 2000 := by
      have hE : b / 2 ^ 52 % 2048 < 2048 := Nat.mod_lt _ (by decide)
      have hc := ctz_le (mant b) (by unfold mant; split <;> omega)
      unfold powI expo
      split <;> omega
    have h3 := Lib.itoa_length_le (powI b) (by omega) (by omega)
    simp only [List.length_append, List.length_cons, List.length_nil]
    omega
theorem said_size (x : V) (h : mayB x = true) : (saidS x).size ≤ 65536 := by
  have ho := own_of_may h
  have hi := int_of_own ho
  unfold saidS
  split
  · unfold boolT; split <;> decide
  split
  · rw [size_list]
    have := Lib.itoa_length_le x.f1 (by omega) (by omega)
    omega
  split
  · rw [size_list]
    have := text_len x.f2.toNat
    omega
  split
  · decide
  · unfold ownB plainB at ho
    by_cases h4 : x.f0 = 4
    · rw [h4] at ho; simp at ho; omega
    · have e4 : (x.f0 == 4) = false := beq_eq_false_iff_ne.2 h4
      rw [e4] at ho
      simp only [Bool.and_eq_true, Bool.or_eq_true, beq_iff_eq, Bool.false_eq_true, false_or] at ho
      have e : x.f3.toList = [] := ho.1.1.1.1.2
      have e2 : x.f3.size = x.f3.toList.length := by rw [ByteArray.toList_eq, data_length]
      rw [e2, e]; simp

theorem str_cells (acc : List UInt8) (s : ByteArray) : Lib.byteCells acc ++ Lib.strCells s = Lib.byteCells (acc ++ s.data.toList) := by
  unfold Lib.byteCells Lib.strCells
  rw [List.map_append]
theorem byteCells_length (acc : List UInt8) : (Lib.byteCells acc).length = acc.length := by
  unfold Lib.byteCells
  rw [List.length_map]
theorem builder_below {T e B b : Nat} {bs : List Value} {w w1 : World} (h : Lib.IsBuilder T e B b bs w) (hb : Below w.heap.size w w1) : Lib.IsBuilder T e B b bs w1 := by
  have key : ∀ p, Lib.BuilderAt T e B b p bs w → Lib.BuilderAt T e B b p bs w1 := fun p ⟨h0, v, h1, h2, h3⟩ => ⟨h0, v, blk_below h1 hb, pw_own_below h2 hb, h3⟩
  rcases h with h | h
  · exact .inl (key _ h)
  · exact .inr (key _ h)

abbrev zeroB : Obj := .cells #[.pointer none, .slice none 0 0] 115
theorem builder_new (w : World) : Lib.IsBuilder 115 5 w.heap.size w.heap.size [] (w.alloc zeroB) :=
  .inl ⟨Nat.le_refl _, .slice none 0 0, blk_new w zeroB, own_nil _ _ _ _, by simp [Value.ownBlock]⟩

set_option maxHeartbeats 8000000 in
set_option maxRecDepth 100000 in
theorem cat_calls (xs : List V) (A : Option Addr) (c : Nat) (w : World) (hT : Tabs w) (hl : xs.length < 2199023255552) (hm : ∀ z ∈ xs, mayB z = true ∧ 0 ≤ z.f2 ∧ z.f2 < 2 ^ 64) (hA : Kd.C k27 w A xs.length xs) :
    Calls Tryz.prog 68 #[.slice A xs.length c] w fun e w' => e = .returned (.tuple #[arg (catR xs).1 none 0 none 0, .int .i64 (catR xs).2]) ∧ Below w.heap.size w w' := by
  have hu27 := Tryz.underlying27
  have HA0 := Lib.hid hA
  have HM := Lib.hid hm
  have HT := Lib.hid hT
  clear hA hm hT
  obtain ⟨R, hR⟩ : ∃ R, catR xs = R := ⟨_, rfl⟩
  rw [hR]
  unfold catR at hR
  go_enter Tryz.func68, Tryz.ntmps68
  go_upto_region 1 with (fail)
  have A2 := Aside0.mk (blk_new w zeros)
  have A3 := Aside0.mk (below_alloc (Below.refl _ w) zeros)
  have G1 := Lib.hid (blk_lt (blk_new w zeros))
  generalize hw4 : w.alloc zeros = w4 at *
  clear hw4
  go_upto_region 2 with (fail)
  have B1 := Aside0.mk (builder_new w4)
  have B2 := Aside0.mk (blk_alloc A2.out zeroB)
  have B3 := Aside0.mk (below_alloc A3.out zeroB)
  have B4 := Aside0.mk (Nat.le_of_lt (blk_lt (blk_new w4 zeroB)))
  clear A2 A3
  generalize w4.heap.size = gb at *
  generalize hw5 : w4.alloc zeroB = w5 at *
  clear hw5
  go_wp2
  go_loopg [11, 5] xs.length (fun kq v11 v5 w' => ∃ (i : Int) (acc : List UInt8) (lg : Bool), v11 = .int .i64 i ∧ v5 = .bool lg ∧ Aside0 (i + kq = xs.length ∧ 0 ≤ i) ∧ Aside0 (catL (xs.drop i.toNat) acc lg = R) ∧ Aside0 (acc.length ≤ 65536) ∧ Aside0 (w'.heap[w.heap.size]? = some zeros) ∧ Aside0 (Lib.IsBuilder 115 5 gb gb (Lib.byteCells acc) w') ∧ Aside0 (gb ≤ w'.heap.size) ∧ Aside0 (Below w.heap.size w w'))
  case atStart => exact ⟨0, [], false, rfl, rfl, ⟨by omega, by omega⟩, ⟨hR⟩, ⟨Nat.zero_le _⟩, B2, B1, B4, B3⟩
  case round =>
    clear B1 B2 B3 B4 hR
    obtain ⟨i, acc, lg, rfl, rfl, HI, HC, HL, BZ, BB, BG, HB⟩ := hrel
    obtain ⟨hi1, hi0⟩ := HI.out
    have LG := Lib.hid (Nat.le_of_lt G1.out)
    cases gk with
    | zero =>
      have hlt : decide (i < (xs.length : Int)) = false := decide_eq_false (by omega)
      have e := HC.out
      rw [List.drop_of_length_le (by omega)] at e
      clear hi1 hi0
      cases lg
      · have e1 : R = (textV ⟨acc.toArray⟩, 0) := e.symm
        subst e1
        have CS := Lib.hid (Tryz.Builder_String_any gb gb acc wr BB.out BG.out)
        clear e
        go_wp2_with (first | (go_at_call 88; refine CS.out.mono ?_; rintro e w6 ⟨rfl, hb6⟩; have BZ6 := Lib.hid ((hb6.block w.heap.size G1.out).trans BZ.out); have HB6 := Lib.hid (HB.out.trans (hb6.mono LG.out)); clear hb6) | ((with_reducible refine gate_store (t := 27) (p := 2) rfl ?_); refine row_event (by rfl) (by rfl) (by rfl) (by rfl) (by rfl) BZ6.out (by exact size27) (by rfl) (by first | rfl | simp [Value.oneCell']) ?_; intro w8 hz8 ho8 hb8; have Z8 := Lib.hid hz8; have HB8 := Lib.hid (hb8 (Nat.le_refl _) HB6.out); clear hb8 ho8 hz8))
        refine bodyPost_ret (results_cell_row_tmp rfl _ _ w.heap.size 27 _ (0, 0) _ rfl Z8.out hu27 rfl (by exact size27)) rfl ?_
        exact ⟨rfl, HB8.out⟩
      · have e1 : R = (z27, 1803) := e.symm
        subst e1
        clear e
        go_wp2_with (first | ((with_reducible refine gate_store (t := 27) (p := 2) rfl ?_); refine row_event (by rfl) (by rfl) (by rfl) (by rfl) (by rfl) BZ.out (by exact size27) (by rfl) (by first | rfl | simp [Value.oneCell']) ?_; intro w8 hz8 ho8 hb8; have Z8 := Lib.hid hz8; have HB8 := Lib.hid (hb8 (Nat.le_refl _) HB.out); clear hb8 ho8 hz8))
        refine bodyPost_ret (results_cell_row_tmp rfl _ _ w.heap.size 27 _ (0, 0) _ rfl Z8.out hu27 rfl (by exact size27)) rfl ?_
        exact ⟨rfl, HB8.out⟩
    | succ k2 =>
      have hlt : decide (i < (xs.length : Int)) = true := decide_eq_true (by omega)
      have hlt' : i < (xs.length : Int) := by omega
      obtain ⟨ad, E4, e4, E5, e5, rfl, hAt, hl4, hk4, hl5, hk5⟩ := At.of_elem HA0.out i hi0 hlt'
      have q0 := eq_true hi0
      have q1 := eq_true hlt'
      have en : (i + 1).toNat = i.toNat + 1 := by omega
      have wi' : IntKind.i64.wrap (i + 1) = i + 1 := by rw [i64_w]; exact Values.wrap_small _ (by omega) (by omega)
      have hstep := catL_drop acc lg xs i.toNat (by omega)
      have er : rd_T27 xs (i.toNat : Nat) = rd_T27 xs i := by unfold rd_T27; rfl
      rw [er, HC.out] at hstep
      have hm : rd_T27 xs i ∈ xs := rd_mem xs i hi0 hlt'
      have hmm := HM.out _ hm
      have hri := int_of_own (own_of_may hmm.1)
      have hsz := said_size _ hmm.1
      have HI2 := Aside0.mk (show i + 1 + k2 = xs.length ∧ 0 ≤ i + 1 from ⟨by omega, by omega⟩)
      have CT := Lib.hid (Said_calls (ad.add (i.toNat * 6)) (rd_T27 xs i) E4 e4 E5 e5 wr (HT.out.below HB.out) (hAt.below HB.out) (by omega) (by omega) hmm.2.1 hmm.2.2)
      clear hk4 hl4 hk5 hl5 hAt er HC hm hmm hri
      generalize saidS (rd_T27 xs i) = sx at *
      generalize saidE (rd_T27 xs i) = se at *
      by_cases hse : se = 0
      · rw [if_pos hse] at hstep
        subst hse
        have hal := HL.out
        have ws : IntKind.i64.wrap ((acc.length : Int) + (sx.size : Int)) = (acc.length : Int) + (sx.size : Int) := by rw [i64_w]; exact Values.wrap_small _ (by omega) (by omega)
        cases lg
        · by_cases hbig : decide (65536 < ((acc.length : Int) + (sx.size : Int))) = true
          · rw [if_pos (by rw [hbig]; rfl)] at hstep
            have HC2 := Aside0.mk (show catL (xs.drop (i + 1).toNat) acc true = R by rw [en]; exact hstep.symm)
            clear hstep
            go_wp2_with (first | (go_at_call 85; refine CT.out.mono ?_; rintro e w6 ⟨rfl, hb6⟩; have BZ6 := Aside0.mk (blk_below BZ.out hb6); have BB6 := Aside0.mk (builder_below BB.out hb6); have CL := Lib.hid (Tryz.Builder_Len gb gb (Lib.byteCells acc) w6 BB6.out); have BG6 := Aside0.mk (Nat.le_trans BG.out (below_size hb6)); have HB6 := Aside0.mk (below_step HB.out hb6); clear hb6) | (go_at_call 86; refine CL.out.mono ?_; rw [byteCells_length]; rintro e w' ⟨rfl, rfl⟩))
            go_roundg k2
            case measure => omega
            case rel => exact ⟨i + 1, acc, true, rfl, rfl, HI2, HC2, HL, BZ6, BB6, BG6, HB6⟩
          · have hbig' : decide (65536 < ((acc.length : Int) + (sx.size : Int))) = false := by simpa using hbig
            rw [if_neg (by rw [hbig']; decide)] at hstep
            have hfit : acc.length + sx.size ≤ 65536 := by have := of_decide_eq_false hbig'; omega
            have HC2 := Aside0.mk (show catL (xs.drop (i + 1).toNat) (acc ++ sx.data.toList) false = R by rw [en]; exact hstep.symm)
            have HL2 := Aside0.mk (show (acc ++ sx.data.toList).length ≤ 65536 by rw [List.length_append, data_length]; exact hfit)
            have HF := Lib.hid hfit
            clear hstep hbig hfit
            go_wp2_with (first | (go_at_call 85; refine CT.out.mono ?_; rintro e w6 ⟨rfl, hb6⟩; have BZ6 := Aside0.mk (blk_below BZ.out hb6); have BB6 := Aside0.mk (builder_below BB.out hb6); have CL := Lib.hid (Tryz.Builder_Len gb gb (Lib.byteCells acc) w6 BB6.out); have BG6 := Aside0.mk (Nat.le_trans BG.out (below_size hb6)); have CW := Lib.hid (write_calls gb gb (Lib.byteCells acc) sx w6 BB6.out (by rw [byteCells_length]; have := HF.out; omega) BG6.out); have HB6 := Aside0.mk (below_step HB.out hb6); clear hb6) | (go_at_call 86; refine CL.out.mono ?_; rw [byteCells_length]; rintro e w' ⟨rfl, rfl⟩) | (go_at_call 87; refine CW.out.mono ?_; rw [str_cells]; rintro e w7 ⟨rfl, hi7, hb7⟩; have BZ7 := Aside0.mk ((hb7.block w.heap.size G1.out).trans BZ6.out); have BB7 := Aside0.mk hi7; have BG7 := Aside0.mk (Nat.le_trans BG6.out hb7.size); have HB7 := Aside0.mk (HB6.out.trans (hb7.mono LG.out)); clear hb7 hi7))
            go_roundg k2
            case measure => omega
            case rel => exact ⟨i + 1, acc ++ sx.data.toList, false, rfl, rfl, HI2, HC2, HL2, BZ7, BB7, BG7, HB7⟩
        · rw [if_pos (by rfl)] at hstep
          have HC2 := Aside0.mk (show catL (xs.drop (i + 1).toNat) acc true = R by rw [en]; exact hstep.symm)
          clear hstep
          go_wp2_with (first | (go_at_call 85; refine CT.out.mono ?_; rintro e w6 ⟨rfl, hb6⟩; have BZ6 := Aside0.mk (blk_below BZ.out hb6); have BB6 := Aside0.mk (builder_below BB.out hb6); have BG6 := Aside0.mk (Nat.le_trans BG.out (below_size hb6)); have HB6 := Aside0.mk (below_step HB.out hb6); clear hb6))
          go_roundg k2
          case measure => omega
          case rel => exact ⟨i + 1, acc, true, rfl, rfl, HI2, HC2, HL, BZ6, BB6, BG6, HB6⟩
      · rw [if_neg hse] at hstep
        subst hstep
        have hne : (se != 0) = true := bne_iff_ne.2 hse
        go_wp2_with (first | (go_at_call 85; refine CT.out.mono ?_; rintro e w6 ⟨rfl, hb6⟩; have BZ6 := Aside0.mk (blk_below BZ.out hb6); have HB6 := Aside0.mk (below_step HB.out hb6); clear hb6) | ((with_reducible refine gate_store (t := 27) (p := 2) rfl ?_); refine row_event (by rfl) (by rfl) (by rfl) (by rfl) (by rfl) BZ6.out (by exact size27) (by rfl) (by first | rfl | simp [Value.oneCell']) ?_; intro w8 hz8 ho8 hb8; have Z8 := Lib.hid hz8; have HB8 := Lib.hid (hb8 (Nat.le_refl _) HB6.out); clear hb8 ho8 hz8))
        refine bodyPost_ret (results_cell_row_tmp rfl _ _ w.heap.size 27 _ (0, 0) _ rfl Z8.out hu27 rfl (by exact size27)) rfl ?_
        exact ⟨rfl, HB8.out⟩
end Go.Proofs.YtdghnfmhcnlppaaGreatDoor.Fns
