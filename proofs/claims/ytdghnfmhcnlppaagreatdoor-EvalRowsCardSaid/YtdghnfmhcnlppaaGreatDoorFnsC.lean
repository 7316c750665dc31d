/- Package fns, walked: length, Bool, index. · Package fns, walked: is there an argument that may not be; pick. · Package fns, walked: index. -/
import Derived.Test.YtdghnfmhcnlppaaGreatDoorValuesU
import Derived.Test.YtdghnfmhcnlppaaGreatDoorM1
namespace Go.Proofs.YtdghnfmhcnlppaaGreatDoor.Fns
open Go.RowKit Go.Proofs.YtdghnfmhcnlppaaGreatDoor.Q Go.Proofs.YtdghnfmhcnlppaaGreatDoor.Real Go.Proofs.YtdghnfmhcnlppaaGreatDoor.RealPure Go.Proofs.YtdghnfmhcnlppaaGreatDoor.Values Go.Proofs.YtdghnfmhcnlppaaGreatDoorW.PrintWords Go.Proofs.YtdghnfmhcnlppaaGreatDoorW.PrintLast Go.Proofs.YtdghnfmhcnlppaaGreatDoorW.PrintMore
set_option linter.unusedSimpArgs false
set_option linter.unusedVariables false

def numV (n : Int) : V := ⟨2, n, 0, ⟨#[]⟩, [], []⟩
def boolV (b : Bool) : V := ⟨1, if b then 1 else 0, 0, ⟨#[]⟩, [], []⟩
abbrev zeros : Obj := .cells #[.int .i64 0, .int .i64 0, .int .u64 0, .string ⟨#[]⟩, .slice none 0 0, .slice none 0 0] 27

/-- len of a value. -/
def lengthR (x : V) : V × Int := if x.f0 == 4 then (numV x.f3.size, 0) else if x.f0 == 5 || x.f0 == 6 then (numV x.f4.length, 0) else (z27, 1802)

set_option maxHeartbeats 4000000 in
set_option maxRecDepth 100000 in
theorem Bool_calls (b : Bool) (w : World) : Calls Tryz.prog 63 #[.bool b] w fun e w' => e = .returned (arg (boolV b) none 0 none 0) ∧ Below w.heap.size w w' := by
  have hu27 := Tryz.underlying27
  cases b
  all_goals
    go_enter Tryz.func63, Tryz.ntmps63
    go_upto_region 1 with (fail)
    have A2 := Lib.hid (blk_new w zeros)
    have A3 := Lib.hid (below_alloc (Below.refl _ w) zeros)
    generalize hw4 : w.alloc zeros = w4 at *
    clear hw4
    go_wp2_with (first | ((with_reducible refine gate_store (t := 27) (p := 2) rfl ?_); refine row_event (by rfl) (by rfl) (by rfl) (by rfl) (by rfl) A2.out (by exact size27) (by rfl) (by first | rfl | simp [Value.oneCell']) ?_; intro w8 hz8 ho8 hb8; have Z8 := Lib.hid hz8; have HB8 := Lib.hid (hb8 (Nat.le_refl _) A3.out); clear hb8 ho8 hz8))
    refine bodyPost_ret (results_cell_row rfl _ _ w.heap.size 27 _ (0, 0) _ rfl Z8.out hu27 rfl (by exact size27)) rfl ?_
    exact ⟨rfl, HB8.out⟩

set_option maxHeartbeats 4000000 in
set_option maxRecDepth 100000 in
theorem length_calls (p : Addr) (x : V) (A4 : Option Addr) (c4 : Nat) (A5 : Option Addr) (c5 : Nat) (w : World) (h : At w p x A4 c4 A5 c5) :
    Calls Tryz.prog 61 #[.pointer (some p)] w fun e w' => e = .returned (.tuple #[arg (lengthR x).1 none 0 none 0, .int .i64 (lengthR x).2]) ∧ Below w.heap.size w w' := by
  have hu27 := Tryz.underlying27
  obtain ⟨R, hR⟩ : ∃ R, lengthR x = R := ⟨_, rfl⟩
  rw [hR]
  unfold lengthR at hR
  have hp : p.block < w.heap.size := World.block_lt_of_cell? w p h.g0
  have H1 := h.below (below_alloc (Below.refl _ w) zeros)
  refine kinds_of x.f0 _ fun b0 b1 b2 b3 b4 b5 b6 e0 e1 e2 e3 e4 e5 e6 hm => ?_
  rw [e4, e5, e6] at hR
  have A2 := Lib.hid (blk_new w zeros)
  have A3 := Lib.hid (below_alloc (Below.refl _ w) zeros)
  obtain ⟨g0, g1, g2, g3, g4, g5⟩ := H1
  clear h hp
  generalize x.f0 = k at *
  generalize x.f1 = i at *
  generalize x.f2 = j at *
  generalize x.f3 = s at *
  generalize x.f4.length = n4 at *
  generalize x.f5.length = n5 at *
  (simp only [List.mem_cons, List.not_mem_nil, or_false, Prod.mk.injEq] at hm; rcases hm with ⟨rfl, rfl, rfl, rfl, rfl, rfl, rfl⟩ | ⟨rfl, rfl, rfl, rfl, rfl, rfl, rfl⟩ | ⟨rfl, rfl, rfl, rfl, rfl, rfl, rfl⟩ | ⟨rfl, rfl, rfl, rfl, rfl, rfl, rfl⟩ | ⟨rfl, rfl, rfl, rfl, rfl, rfl, rfl⟩ | ⟨rfl, rfl, rfl, rfl, rfl, rfl, rfl⟩ | ⟨rfl, rfl, rfl, rfl, rfl, rfl, rfl⟩ | ⟨rfl, rfl, rfl, rfl, rfl, rfl, rfl⟩)
  all_goals
    first
      | (rw [if_pos (by decide)] at hR)
      | (rw [if_neg (by decide), if_pos (by decide)] at hR)
      | (rw [if_neg (by decide), if_neg (by decide)] at hR)
    subst hR
    go_enter Tryz.func61, Tryz.ntmps61
    go_upto_region 1 with (fail)
    generalize hw4 : w.alloc zeros = w4 at *
    clear hw4
    go_wp2_with (first | ((with_reducible refine gate_store (t := 27) (p := 2) rfl ?_); refine row_event (by rfl) (by rfl) (by rfl) (by rfl) (by rfl) A2.out (by exact size27) (by rfl) (by first | rfl | simp [Value.oneCell']) ?_; intro w8 hz8 ho8 hb8; have Z8 := Lib.hid hz8; have HB8 := Lib.hid (hb8 (Nat.le_refl _) A3.out); clear hb8 ho8 hz8))
    refine bodyPost_ret (results_cell_row_tmp rfl _ _ w.heap.size 27 _ (0, 0) _ rfl Z8.out hu27 rfl (by exact size27)) rfl ?_
    exact ⟨rfl, HB8.out⟩
end Go.Proofs.YtdghnfmhcnlppaaGreatDoor.Fns
namespace Go.Proofs.YtdghnfmhcnlppaaGreatDoor.Fns
open Go.RowKit Go.Proofs.YtdghnfmhcnlppaaGreatDoor.Q Go.Proofs.YtdghnfmhcnlppaaGreatDoor.Real Go.Proofs.YtdghnfmhcnlppaaGreatDoor.RealPure Go.Proofs.YtdghnfmhcnlppaaGreatDoor.Values Go.Proofs.YtdghnfmhcnlppaaGreatDoorW.PrintWords Go.Proofs.YtdghnfmhcnlppaaGreatDoorW.PrintLast Go.Proofs.YtdghnfmhcnlppaaGreatDoorW.PrintMore
set_option linter.unusedSimpArgs false
set_option linter.unusedVariables false

set_option maxHeartbeats 4000000 in
set_option maxRecDepth 100000 in
theorem bad_calls (x : V) (A4 : Option Addr) (c4 : Nat) (A5 : Option Addr) (c5 : Nat) (w : World) (h : Rows4 w x A4 c4 A5 c5) :
    Calls Tryz.prog 34 #[arg x A4 c4 A5 c5] w fun e w' => e = .returned (.bool (!mayB x)) ∧ Below w.heap.size w w' := by
  have hu27 := Tryz.underlying27
  have H0 := Lib.hid h
  have CM := Lib.hid (May_calls x A4 c4 A5 c5)
  clear h
  generalize mayB x = mb at *
  go_enter Tryz.func34, Tryz.ntmps34
  go_upto_region 1 with (first | ((with_reducible refine gate_dst (N := 1) rfl ?_); (try (refine gate_guard (by rfl) ?_; dsimp only)); refine box_event ?hg (N := 1) ?hd (cs := #[.int .i64 x.f0, .int .i64 x.f1, .int .u64 x.f2, .string x.f3, .slice A4 x.f4.length c4, .slice A5 x.f5.length c5]) (t := 27) ?hr ?_; (case hd => rfl); (case hg => rfl); (case hr => first | (go_simp; done) | (go_simp; rfl)); intro gb hg w3 hbox hb; have BK := Lib.hid hbox; have HB := Lib.hid hb; have G0 := (At.of_box hbox); clear hb hbox hg))
  obtain ⟨g0, g1, g2, g3, g4, g5⟩ := G0
  go_wp2_with (first | (go_at_call 35; refine (CM.out w3 (H0.out.below HB.out)).mono ?_; rintro e w' ⟨rfl, hb4⟩; have HB4 := Lib.hid hb4; clear hb4))
  go_ret
  exact ⟨rfl, below_step HB.out HB4.out⟩

/-- The place of the first one that may not be, or -1. -/
def badI : List V → Int → Int
  | [], _ => -1
  | x :: xs, i => if mayB x = true then badI xs (i + 1) else i
theorem badI_drop (xs : List V) (i : Nat) (hi : i < xs.length) : badI (xs.drop i) i = if mayB (rd_T27 xs i) = true then badI (xs.drop (i + 1)) ((i : Int) + 1) else i := by
  have e : xs.drop i = rd_T27 xs i :: xs.drop (i + 1) := by
    rw [List.drop_eq_getElem_cons hi]
    congr 1
    unfold rd_T27
    simp [hi]
  rw [e]; rfl
theorem badI_any : ∀ (xs : List V) (i : Int), 0 ≤ i → decide (0 ≤ badI xs i) = xs.any (fun v => !mayB v)
  | [], i, h => rfl
  | x :: xs, i, h => by
    unfold badI
    cases hm : mayB x
    · simp [hm, h]
    · simp only [if_true]
      rw [badI_any xs (i + 1) (by omega)]
      simp [hm]

set_option maxHeartbeats 8000000 in
set_option maxRecDepth 100000 in
theorem indexFunc_calls (xs : List V) (A : Option Addr) (c : Nat) (w : World) (hl : xs.length < 2199023255552) (hA : Kd.C k27 w A xs.length xs) :
    Calls Tryz.prog 60 #[.slice A xs.length c, .func (.func 34) #[] #[]] w fun e w' => e = .returned (.int .i64 (badI xs 0)) ∧ Below w.heap.size w w' := by
  have hu27 := Tryz.underlying27
  have HA0 := Lib.hid hA
  clear hA
  obtain ⟨R, hR⟩ : ∃ R, badI xs 0 = R := ⟨_, rfl⟩
  rw [hR]
  go_enter Tryz.func60, Tryz.ntmps60
  go_wp2
  have A1 := Aside0.mk (Below.refl w.heap.size w)
  go_loopg [8] xs.length (fun kq v8 w' => ∃ (i : Int), v8 = .int .i64 i ∧ Aside0 (i + kq = xs.length ∧ 0 ≤ i) ∧ Aside0 (badI (xs.drop i.toNat) i = R) ∧ Aside0 (Below w.heap.size w w'))
  case atStart => exact ⟨0, rfl, ⟨by omega, by omega⟩, ⟨hR⟩, A1⟩
  case round =>
    clear A1
    obtain ⟨i, rfl, HI, HM, HB⟩ := hrel
    obtain ⟨hi1, hi0⟩ := HI.out
    cases gk with
    | zero =>
      have hlt : decide (i < (xs.length : Int)) = false := decide_eq_false (by omega)
      have e := HM.out
      rw [List.drop_of_length_le (by omega)] at e
      have e1 : R = -1 := e.symm
      clear e hi1 hi0 hR
      subst e1
      go_wp2
      go_ret
      exact ⟨rfl, HB.out⟩
    | succ k2 =>
      have hlt : decide (i < (xs.length : Int)) = true := decide_eq_true (by omega)
      have hlt' : i < (xs.length : Int) := by omega
      obtain ⟨ad, E4, e4, E5, e5, rfl, hAt, hl4, hk4, hl5, hk5⟩ := At.of_elem HA0.out i hi0 hlt'
      have q0 := eq_true hi0
      have q1 := eq_true hlt'
      have en : (i + 1).toNat = i.toNat + 1 := by omega
      have wi : wrap64 (i + 1) = i + 1 := Values.wrap_small _ (by omega) (by omega)
      have wi' : IntKind.i64.wrap (i + 1) = i + 1 := by rw [i64_w]; exact wi
      obtain ⟨a0, a1, a2, a3, a4, a5⟩ := hAt.below HB.out
      have hstep := badI_drop xs i.toNat (by omega)
      have er : rd_T27 xs (i.toNat : Nat) = rd_T27 xs i := by unfold rd_T27; rfl
      have ei : ((i.toNat : Nat) : Int) = i := by omega
      rw [er, ei, HM.out] at hstep
      have HI2 := Aside0.mk (show i + 1 + k2 = xs.length ∧ 0 ≤ i + 1 from ⟨by omega, by omega⟩)
      have CS := Lib.hid (bad_calls (rd_T27 xs i) E4 e4 E5 e5 _ ((⟨hk4, hl4, hk5, hl5⟩ : Rows4 w (rd_T27 xs i) E4 e4 E5 e5).below HB.out))
      clear hk4 hl4 hk5 hl5 hAt er ei HM hR
      generalize mayB (rd_T27 xs i) = mb at CS hstep
      cases mb
      · rw [if_neg (by decide)] at hstep
        subst hstep
        go_wp2_with (go_at_call 34; refine CS.out.mono ?_; rintro e w' ⟨rfl, hb4⟩; have HB4 := Lib.hid (below_step HB.out hb4); clear hb4)
        go_ret
        exact ⟨rfl, HB4.out⟩
      · rw [if_pos rfl] at hstep
        have HM2 := Aside0.mk (show badI (xs.drop (i + 1).toNat) (i + 1) = R by rw [en]; exact hstep.symm)
        clear hstep
        go_wp2_with (go_at_call 34; refine CS.out.mono ?_; rintro e w' ⟨rfl, hb4⟩; have HB4 := Aside0.mk (below_step HB.out hb4); clear hb4)
        go_roundg k2
        case measure => omega
        case rel => exact ⟨i + 1, rfl, HI2, HM2, HB4⟩
set_option maxHeartbeats 4000000 in
set_option maxRecDepth 100000 in
theorem containsFunc_calls (xs : List V) (A : Option Addr) (c : Nat) (w : World) (hl : xs.length < 2199023255552) (hA : Kd.C k27 w A xs.length xs) :
    Calls Tryz.prog 36 #[.slice A xs.length c, .func (.func 34) #[] #[]] w fun e w' => e = .returned (.bool (xs.any fun v => !mayB v)) ∧ Below w.heap.size w w' := by
  have CI := Lib.hid (indexFunc_calls xs A c w hl hA)
  have e := badI_any xs 0 (by omega)
  generalize badI xs 0 = bi at CI e
  clear hA hl
  go_enter Tryz.func36, Tryz.ntmps36
  go_wp2_with (go_at_call 60; refine CI.out.mono ?_; rintro e w' ⟨rfl, hb4⟩; have HB4 := Lib.hid hb4; clear hb4)
  go_ret
  exact ⟨rfl, HB4.out⟩

/-- The first one that is so true, else the last one. -/
def pickL (b : Bool) : List V → V → V
  | [], z => z
  | x :: xs, z => if (truthB x == b) = true then x else pickL b xs z
def pickR (args : List V) (b : Bool) : V := pickL b args (rd_T27 args (args.length - 1))
theorem pickL_drop (b : Bool) (z : V) (xs : List V) (i : Nat) (hi : i < xs.length) : pickL b (xs.drop i) z = if (truthB (rd_T27 xs i) == b) = true then rd_T27 xs i else pickL b (xs.drop (i + 1)) z := by
  have e : xs.drop i = rd_T27 xs i :: xs.drop (i + 1) := by
    rw [List.drop_eq_getElem_cons hi]
    congr 1
    unfold rd_T27
    simp [hi]
  rw [e]; rfl

set_option maxHeartbeats 8000000 in
set_option maxRecDepth 100000 in
theorem pick_calls (xs : List V) (b : Bool) (A : Option Addr) (c : Nat) (w0 w : World) (hb0 : Below w0.heap.size w0 w) (h0 : 0 < xs.length) (hl : xs.length < 2199023255552) (hr : ∀ z ∈ xs, 0 ≤ z.f2 ∧ z.f2 < 2 ^ 64) (hA : Kd.C k27 w0 A xs.length xs) :
    Calls Tryz.prog 67 #[.slice A xs.length c, .bool b] w fun e w' => ∃ B4 d4 B5 d5, e = .returned (arg (pickR xs b) B4 d4 B5 d5) ∧ Rows4 w0 (pickR xs b) B4 d4 B5 d5 ∧ pickR xs b ∈ xs ∧ Below w.heap.size w w' := by
  have hu27 := Tryz.underlying27
  have HA0 := Lib.hid hA
  have HB0 := Lib.hid hb0
  have HR := Lib.hid hr
  clear hA hr hb0
  obtain ⟨R, hR⟩ : ∃ R, pickR xs b = R := ⟨_, rfl⟩
  rw [hR]
  unfold pickR at hR
  go_enter Tryz.func67, Tryz.ntmps67
  go_upto_region 1 with (fail)
  have A2 := Aside0.mk (blk_new w zeros)
  have A3 := Aside0.mk (below_alloc (Below.refl _ w) zeros)
  generalize hw4 : w.alloc zeros = w4 at *
  clear hw4
  go_wp2
  go_loopg [9] xs.length (fun kq v9 w' => ∃ (i : Int), v9 = .int .i64 i ∧ Aside0 (i + kq = xs.length ∧ 0 ≤ i) ∧ Aside0 (pickL b (xs.drop i.toNat) (rd_T27 xs (xs.length - 1)) = R) ∧ Aside0 (w'.heap[w.heap.size]? = some zeros) ∧ Aside0 (Below w.heap.size w w'))
  case atStart => exact ⟨0, rfl, ⟨by omega, by omega⟩, ⟨hR⟩, A2, A3⟩
  case round =>
    clear A2 A3 hR
    obtain ⟨i, rfl, HI, HM, BZ, HB⟩ := hrel
    obtain ⟨hi1, hi0⟩ := HI.out
    cases gk with
    | zero =>
      have hlt : decide (i < (xs.length : Int)) = false := decide_eq_false (by omega)
      have e := HM.out
      rw [List.drop_of_length_le (by omega)] at e
      obtain ⟨m, hme⟩ : ∃ m : Int, m = (xs.length : Int) - 1 := ⟨_, rfl⟩
      have e1 : rd_T27 xs m = R := by rw [← e, hme]; rfl
      have m0 : 0 ≤ m := by omega
      have m1 : m < (xs.length : Int) := by omega
      have hm : R ∈ xs := by rw [← e1]; exact rd_mem xs _ m0 m1
      obtain ⟨ad, E4, e4, E5, e5, rfl, hAt, hl4, hk4, hl5, hk5⟩ := At.of_elem HA0.out m m0 m1
      rw [e1] at hAt hl4 hk4 hl5 hk5
      have HRW := Lib.hid (⟨hk4, hl4, hk5, hl5⟩ : Rows4 w0 R E4 e4 E5 e5)
      have wi' : IntKind.i64.wrap ((xs.length : Int) - 1) = m := by rw [i64_w, hme]; exact Values.wrap_small _ (by omega) (by omega)
      have q0 := eq_true m0
      have q1 := eq_true m1
      obtain ⟨a0, a1, a2, a3, a4, a5⟩ := hAt.below (below_step HB0.out HB.out)
      clear hme m0 m1
      clear e e1 hi1 hi0 hl4 hk4 hl5 hk5 hAt
      go_wp2_with (first | ((with_reducible refine gate_store (t := 27) (p := 4) rfl ?_); refine row_event (by rfl) (by rfl) (by rfl) (by rfl) (by rfl) BZ.out (by exact size27) (by rfl) (by first | rfl | simp [Value.oneCell']) ?_; intro w8 hz8 ho8 hb8; have Z8 := Lib.hid hz8; have HB8 := Lib.hid (hb8 (Nat.le_refl _) HB.out); clear hb8 ho8 hz8))
      refine bodyPost_ret (results_cell_row rfl _ _ w.heap.size 27 _ (0, 0) _ rfl Z8.out hu27 rfl (by exact size27)) rfl ?_
      exact ⟨_, _, _, _, rfl, HRW.out, hm, HB8.out⟩
    | succ k2 =>
      have hlt : decide (i < (xs.length : Int)) = true := decide_eq_true (by omega)
      have hlt' : i < (xs.length : Int) := by omega
      obtain ⟨ad, E4, e4, E5, e5, rfl, hAt, hl4, hk4, hl5, hk5⟩ := At.of_elem HA0.out i hi0 hlt'
      have q0 := eq_true hi0
      have q1 := eq_true hlt'
      have en : (i + 1).toNat = i.toNat + 1 := by omega
      have wi : wrap64 (i + 1) = i + 1 := Values.wrap_small _ (by omega) (by omega)
      have wi' : IntKind.i64.wrap (i + 1) = i + 1 := by rw [i64_w]; exact wi
      have hstep := pickL_drop b (rd_T27 xs (xs.length - 1)) xs i.toNat (by omega)
      have er : rd_T27 xs (i.toNat : Nat) = rd_T27 xs i := by unfold rd_T27; rfl
      rw [er, HM.out] at hstep
      have hm : rd_T27 xs i ∈ xs := rd_mem xs i hi0 hlt'
      have HI2 := Aside0.mk (show i + 1 + k2 = xs.length ∧ 0 ≤ i + 1 from ⟨by omega, by omega⟩)
      have HRW := Lib.hid (⟨hk4, hl4, hk5, hl5⟩ : Rows4 w0 (rd_T27 xs i) E4 e4 E5 e5)
      have HF := Lib.hid (HR.out _ hm)
      obtain ⟨a0, a1, a2, a3, a4, a5⟩ := hAt.below (below_step HB0.out HB.out)
      have hgw : w.heap.size < wr.heap.size := blk_lt BZ.out
      have hne : w.heap.size ≠ wr.heap.size := Nat.ne_of_lt hgw
      have NE := Lib.hid hne
      have LE := Lib.hid (Nat.le_of_lt hgw)
      have CT := Lib.hid (fun W (hb : At W ⟨wr.heap.size, 0, none⟩ (rd_T27 xs i) E4 e4 E5 e5) => Truth_calls ⟨wr.heap.size, 0, none⟩ (rd_T27 xs i) E4 e4 E5 e5 W hb HF.out.1 HF.out.2)
      have BN := Lib.hid (blk_new wr zeros)
      have BZA := Lib.hid (blk_alloc BZ.out zeros)
      have HBA := Lib.hid (below_alloc HB.out zeros)
      clear hk4 hl4 hk5 hl5 hAt er HM hgw hne
      generalize rd_T27 xs i = y at *
      obtain ⟨tb, htb⟩ : ∃ tb, truthB y = tb := ⟨_, rfl⟩
      rw [htb] at CT hstep
      clear htb
      by_cases hc : (tb == b) = true
      · rw [if_pos hc] at hstep
        subst hstep
        go_wp2_with (first | ((with_reducible refine gate_store (t := 27) (p := 6) rfl ?_); refine row_event (by rfl) (by rfl) (by rfl) (by rfl) (by rfl) BN.out (by exact size27) (by rfl) (by first | rfl | simp [Value.oneCell']) ?_; intro w8 hz8 ho8 hb8; have Z8 := Lib.hid hz8; have BZ8 := Lib.hid ((ho8 _ NE.out).trans BZA.out); have HB8 := Lib.hid (hb8 LE.out HBA.out); obtain ⟨s0, s1, s2, s3, s4, s5⟩ := At.of_box hz8; clear hb8 ho8 hz8) | (go_at_call 66; refine (CT.out _ (At.of_box Z8.out)).mono ?_; rintro e w' ⟨rfl, rfl⟩) | ((with_reducible refine gate_store (t := 27) (p := 4) rfl ?_); refine row_event (by rfl) (by rfl) (by rfl) (by rfl) (by rfl) BZ8.out (by exact size27) (by rfl) (by first | rfl | simp [Value.oneCell']) ?_; intro w9 hz9 ho9 hb9; have Z9 := Lib.hid hz9; have HB9 := Lib.hid (hb9 (Nat.le_refl _) HB8.out); clear hb9 ho9 hz9))
        refine bodyPost_ret (results_cell_row rfl _ _ w.heap.size 27 _ (0, 0) _ rfl Z9.out hu27 rfl (by exact size27)) rfl ?_
        exact ⟨_, _, _, _, rfl, HRW.out, hm, HB9.out⟩
      · rw [if_neg hc] at hstep
        have hc' : (tb == b) = false := by simpa using hc
        clear hc
        have HM2 := Aside0.mk (show pickL b (xs.drop (i + 1).toNat) (rd_T27 xs (xs.length - 1)) = R by rw [en]; exact hstep.symm)
        clear hstep
        go_wp2_with (first | ((with_reducible refine gate_store (t := 27) (p := 6) rfl ?_); refine row_event (by rfl) (by rfl) (by rfl) (by rfl) (by rfl) BN.out (by exact size27) (by rfl) (by first | rfl | simp [Value.oneCell']) ?_; intro w8 hz8 ho8 hb8; have Z8 := Aside0.mk hz8; have BZ8 := Aside0.mk ((ho8 _ NE.out).trans BZA.out); have HB8 := Aside0.mk (hb8 LE.out HBA.out); clear hb8 ho8 hz8) | (go_at_call 66; refine (CT.out _ (At.of_box Z8.out)).mono ?_; rintro e w' ⟨rfl, rfl⟩))
        go_roundg k2
        case measure => omega
        case rel => exact ⟨i + 1, rfl, HI2, HM2, BZ8, HB8⟩
end Go.Proofs.YtdghnfmhcnlppaaGreatDoor.Fns
namespace Go.Proofs.YtdghnfmhcnlppaaGreatDoor.Fns
open Go.RowKit Go.Proofs.YtdghnfmhcnlppaaGreatDoor.Q Go.Proofs.YtdghnfmhcnlppaaGreatDoor.Real Go.Proofs.YtdghnfmhcnlppaaGreatDoor.RealPure Go.Proofs.YtdghnfmhcnlppaaGreatDoor.Values Go.Proofs.YtdghnfmhcnlppaaGreatDoorW.PrintWords Go.Proofs.YtdghnfmhcnlppaaGreatDoorW.PrintLast Go.Proofs.YtdghnfmhcnlppaaGreatDoorW.PrintMore
set_option linter.unusedSimpArgs false
set_option linter.unusedVariables false

/-- Where a key stands, or -1. -/
def keyI : List ByteArray → ByteArray → Int → Int
  | [], _, _ => -1
  | k :: ks, a, i => if a.toList = k.toList then i else keyI ks a (i + 1)
theorem keyI_range : ∀ (l : List ByteArray) (a : ByteArray) (i : Int), 0 ≤ i → -1 ≤ keyI l a i ∧ keyI l a i < i + l.length
  | [], a, i, h => by unfold keyI; simp; omega
  | k :: ks, a, i, h => by
    unfold keyI
    have := keyI_range ks a (i + 1) (by omega)
    split
    · simp; omega
    · simp; omega
theorem keyI_total (l : List ByteArray) (a : ByteArray) (hl : l.length < 2199023255552) : ∀ (m i : Nat), i + m = l.length → M.slices_Index_string_string.l0 (m + 1) l a (l.length : Int) (i : Int) = some (keyI (l.drop i) a i)
  | 0, i, h => by
    unfold M.slices_Index_string_string.l0
    rw [if_neg (by omega), List.drop_of_length_le (by omega)]
    rfl
  | m + 1, i, h => by
    have ih := keyI_total l a hl m (i + 1) (by omega)
    unfold M.slices_Index_string_string.l0
    have e : l.drop i = l.getD i ByteArray.empty :: l.drop (i + 1) := by
      rw [List.drop_eq_getElem_cons (by omega : i < l.length)]
      congr 1
      simp [List.getD_eq_getElem?_getD, List.getElem?_eq_getElem (by omega : i < l.length)]
    have e2 : wrap64 ((i : Int) + 1) = ((i + 1 : Nat) : Int) := by rw [Values.wrap_small _ (by omega) (by omega)]; rfl
    have e1 : rdOf ByteArray.empty l (i : Int) = l.getD i ByteArray.empty := rfl
    rw [e]
    simp only [keyI]
    rw [e2, ih, e1]
    repeat (first | rw [if_pos (by omega)])
    split <;> rfl
theorem indexK_calls (A : Option Addr) (c : Nat) (l : List ByteArray) (a : ByteArray) (w : World) (hr : Kd.C Kd.string w A l.length l) (hc : l.length ≤ c) (hl : l.length < 2199023255552) :
    Calls Tryz.prog 81 #[.slice A l.length c, .string a] w fun e w' => e = .returned (.int .i64 (keyI l a 0)) ∧ Drawn0 w w' :=
  M.slices_Index_string_string.calls (l.length + 1) A c l a (keyI l a 0) w hr hc (keyI_total l a hl l.length 0 (by omega))

def idxI (x y : V) : Option Int := if (x.f0 == 5 && y.f0 == 2) = true then some y.f1 else if (x.f0 == 6 && y.f0 == 4) = true then some (keyI x.f5 y.f3 0) else none
/-- What stands in a list, in a record. -/
def indexR (x y : V) : V × Int := match idxI x y with
  | none => (z27, 1802)
  | some i => if i < 0 ∨ (x.f4.length : Int) ≤ i then (z27, 1803) else (rd_T27 x.f4 i, 0)

set_option maxHeartbeats 8000000 in
set_option maxRecDepth 100000 in
theorem index_calls (p q : Addr) (x y : V) (A4 : Option Addr) (c4 : Nat) (A5 : Option Addr) (c5 : Nat) (B4 : Option Addr) (d4 : Nat) (B5 : Option Addr) (d5 : Nat) (w0 w : World) (hb0 : Below w0.heap.size w0 w) (h : At w p x A4 c4 A5 c5) (h' : At w q y B4 d4 B5 d5) (hr : Rows4 w0 x A4 c4 A5 c5) (hl : x.f5.length < 2199023255552) :
    Calls Tryz.prog 62 #[.pointer (some p), .pointer (some q)] w fun e w' => ∃ E4 e4 E5 e5, e = .returned (.tuple #[arg (indexR x y).1 E4 e4 E5 e5, .int .i64 (indexR x y).2]) ∧ Rows4 w0 (indexR x y).1 E4 e4 E5 e5 ∧ ((indexR x y).1 = z27 ∨ (indexR x y).1 ∈ x.f4) ∧ Below w.heap.size w w' := by
  have hu27 := Tryz.underlying27
  obtain ⟨R, hR⟩ : ∃ R, indexR x y = R := ⟨_, rfl⟩
  rw [hR]
  have H1 := h.below (below_alloc (Below.refl _ w) zeros)
  have H2 := h'.below (below_alloc (Below.refl _ w) zeros)
  have HRW := Lib.hid hr
  have HB0 := Lib.hid hb0
  have A2 := Lib.hid (blk_new w zeros)
  have A3 := Lib.hid (below_alloc (Below.refl _ w) zeros)
  have CK := Lib.hid (fun (W : World) (hb : Below w.heap.size w W) => indexK_calls A5 c5 x.f5 y.f3 W (Kd.C_below hr.k5 (below_step hb0 hb)) hr.l5 hl)
  have KR := keyI_range x.f5 y.f3 0 (by omega)
  obtain ⟨g0, g1, g2, g3, g4, g5⟩ := H1
  obtain ⟨s0, s1, s2, s3, s4, s5⟩ := H2
  clear h h' hr hl hb0
  unfold indexR idxI at hR
  have NIL : Hid (Rows4 w0 z27 none 0 none 0) := Lib.hid ⟨Kd.C_nil _ _, Nat.le_refl _, Kd.C_nil _ _, Nat.le_refl _⟩
  have KEY : ∀ (o : Option Int), (match o with | none => ((z27, 1802) : V × Int) | some i => if i < 0 ∨ (x.f4.length : Int) ≤ i then (z27, 1803) else (rd_T27 x.f4 i, 0)) = R → (o = none → R = (z27, 1802)) ∧ (∀ i, o = some i → (i < 0 ∨ (x.f4.length : Int) ≤ i) → R = (z27, 1803)) ∧ (∀ i, o = some i → 0 ≤ i → i < x.f4.length → R = (rd_T27 x.f4 i, 0)) := by
    rintro o rfl
    refine ⟨?_, ?_, ?_⟩
    · rintro rfl; rfl
    · rintro i rfl hi; exact if_pos hi
    · rintro i rfl h0 h1; exact if_neg (by omega)
  by_cases c1 : (x.f0 == 5) = true
  · have c3 : (x.f0 == 6) = false := by have := beq_iff_eq.1 c1; rw [this]; rfl
    by_cases c2 : (y.f0 == 2) = true
    · rw [if_pos (by rw [c1, c2]; rfl)] at hR
      by_cases n0 : y.f1 < 0
      · obtain rfl := (KEY (some (y.f1)) hR).2.1 _ rfl (.inl n0)
        have t0 : decide (y.f1 < 0) = true := decide_eq_true n0
        clear KEY hR KR CK
        go_enter Tryz.func62, Tryz.ntmps62
        go_upto_region 1 with (fail)
        generalize hw4 : w.alloc zeros = w4 at *
        clear hw4
        go_wp2_with (first | ((with_reducible refine gate_store (t := 27) (p := 4) rfl ?_); refine row_event (by rfl) (by rfl) (by rfl) (by rfl) (by rfl) (by first | exact A2.out | exact blk_drewN A2.out _) (by exact size27) (by rfl) (by first | rfl | simp [Value.oneCell']) ?_; intro w8 hz8 ho8 hb8; have Z8 := Lib.hid hz8; have HB8 := Lib.hid (hb8 (Nat.le_refl _) (by first | exact A3.out | exact pw_below_drewN A3.out _)); clear hb8 ho8 hz8))
        refine bodyPost_ret (results_cell_row_tmp rfl _ _ w.heap.size 27 _ (0, 0) _ rfl Z8.out hu27 rfl (by exact size27)) rfl ?_
        first | exact ⟨none, 0, none, 0, rfl, NIL.out, .inl rfl, HB8.out⟩ | exact ⟨none, 0, none, 0, rfl, NIL.out, .inl trivial, HB8.out⟩ | exact ⟨none, 0, none, 0, rfl, NIL.out, HB8.out⟩
      by_cases n1 : (x.f4.length : Int) ≤ y.f1
      · obtain rfl := (KEY (some (y.f1)) hR).2.1 _ rfl (.inr n1)
        have t0 : decide (y.f1 < 0) = false := decide_eq_false n0
        have t1 : decide ((x.f4.length : Int) ≤ y.f1) = true := decide_eq_true n1
        clear KEY hR KR CK
        go_enter Tryz.func62, Tryz.ntmps62
        go_upto_region 1 with (fail)
        generalize hw4 : w.alloc zeros = w4 at *
        clear hw4
        go_wp2_with (first | ((with_reducible refine gate_store (t := 27) (p := 4) rfl ?_); refine row_event (by rfl) (by rfl) (by rfl) (by rfl) (by rfl) (by first | exact A2.out | exact blk_drewN A2.out _) (by exact size27) (by rfl) (by first | rfl | simp [Value.oneCell']) ?_; intro w8 hz8 ho8 hb8; have Z8 := Lib.hid hz8; have HB8 := Lib.hid (hb8 (Nat.le_refl _) (by first | exact A3.out | exact pw_below_drewN A3.out _)); clear hb8 ho8 hz8))
        refine bodyPost_ret (results_cell_row_tmp rfl _ _ w.heap.size 27 _ (0, 0) _ rfl Z8.out hu27 rfl (by exact size27)) rfl ?_
        first | exact ⟨none, 0, none, 0, rfl, NIL.out, .inl rfl, HB8.out⟩ | exact ⟨none, 0, none, 0, rfl, NIL.out, .inl trivial, HB8.out⟩ | exact ⟨none, 0, none, 0, rfl, NIL.out, HB8.out⟩
      · skip
        have n2 : 0 ≤ y.f1 := by omega
        have n3 : y.f1 < (x.f4.length : Int) := by omega
        obtain rfl := (KEY (some (y.f1)) hR).2.2 _ rfl n2 n3
        have t0 : decide (y.f1 < 0) = false := decide_eq_false n0
        have t1 : decide ((x.f4.length : Int) ≤ y.f1) = false := decide_eq_false n1
        have hm : rd_T27 x.f4 y.f1 ∈ x.f4 := rd_mem x.f4 _ n2 n3
        obtain ⟨ad, E4, e4, E5, e5, rfl, hAt, hl4, hk4, hl5, hk5⟩ := At.of_elem HRW.out.k4 (y.f1) n2 n3
        have HQ := Lib.hid (⟨hk4, hl4, hk5, hl5⟩ : Rows4 w0 (rd_T27 x.f4 (y.f1)) E4 e4 E5 e5)
        have q0 := eq_true n2
        have q1 := eq_true n3
        obtain ⟨a0, a1, a2, a3, a4, a5⟩ := hAt.below (below_alloc HB0.out zeros)
        clear hl4 hk4 hl5 hk5 hAt n0 n1 n2 n3
        clear KEY hR KR CK
        go_enter Tryz.func62, Tryz.ntmps62
        go_upto_region 1 with (fail)
        generalize hw4 : w.alloc zeros = w4 at *
        clear hw4
        go_wp2_with (first | ((with_reducible refine gate_store (t := 27) (p := 4) rfl ?_); refine row_event (by rfl) (by rfl) (by rfl) (by rfl) (by rfl) (by first | exact A2.out | exact blk_drewN A2.out _) (by exact size27) (by rfl) (by first | rfl | simp [Value.oneCell']) ?_; intro w8 hz8 ho8 hb8; have Z8 := Lib.hid hz8; have HB8 := Lib.hid (hb8 (Nat.le_refl _) (by first | exact A3.out | exact pw_below_drewN A3.out _)); clear hb8 ho8 hz8))
        refine bodyPost_ret (results_cell_row_tmp rfl _ _ w.heap.size 27 _ (0, 0) _ rfl Z8.out hu27 rfl (by exact size27)) rfl ?_
        exact ⟨_, _, _, _, rfl, HQ.out, .inr hm, HB8.out⟩
    · have c2' : (y.f0 == 2) = false := by simpa using c2
      rw [if_neg (by rw [c2']; simp), if_neg (by rw [c3]; simp)] at hR
      clear c2
      obtain rfl := (KEY none hR).1 rfl
      clear KEY hR KR CK
      go_enter Tryz.func62, Tryz.ntmps62
      go_upto_region 1 with (fail)
      generalize hw4 : w.alloc zeros = w4 at *
      clear hw4
      go_wp2_with (first | ((with_reducible refine gate_store (t := 27) (p := 4) rfl ?_); refine row_event (by rfl) (by rfl) (by rfl) (by rfl) (by rfl) (by first | exact A2.out | exact blk_drewN A2.out _) (by exact size27) (by rfl) (by first | rfl | simp [Value.oneCell']) ?_; intro w8 hz8 ho8 hb8; have Z8 := Lib.hid hz8; have HB8 := Lib.hid (hb8 (Nat.le_refl _) (by first | exact A3.out | exact pw_below_drewN A3.out _)); clear hb8 ho8 hz8))
      refine bodyPost_ret (results_cell_row_tmp rfl _ _ w.heap.size 27 _ (0, 0) _ rfl Z8.out hu27 rfl (by exact size27)) rfl ?_
      first | exact ⟨none, 0, none, 0, rfl, NIL.out, .inl rfl, HB8.out⟩ | exact ⟨none, 0, none, 0, rfl, NIL.out, .inl trivial, HB8.out⟩ | exact ⟨none, 0, none, 0, rfl, NIL.out, HB8.out⟩
  · have c1' : (x.f0 == 5) = false := by simpa using c1
    rw [if_neg (by rw [c1']; simp)] at hR
    clear c1
    by_cases c3 : (x.f0 == 6) = true
    · by_cases c4 : (y.f0 == 4) = true
      · rw [if_pos (by rw [c3, c4]; rfl)] at hR
        generalize keyI x.f5 y.f3 0 = ki at *
        by_cases n0 : ki < 0
        · obtain rfl := (KEY (some (ki)) hR).2.1 _ rfl (.inl n0)
          have t0 : decide (ki < 0) = true := decide_eq_true n0
          clear KEY hR KR
          go_enter Tryz.func62, Tryz.ntmps62
          go_upto_region 1 with (fail)
          generalize hw4 : w.alloc zeros = w4 at *
          clear hw4
          go_wp2
          go_quiet (first | (go_at_call 81; (with_reducible refine (CK.out _ (by first | exact A3.out | exact pw_below_drewN A3.out _)).mono ?_); rintro e w' ⟨rfl, ⟨nd, rfl⟩⟩; (try first | exact ⟨rfl, _, World.drewN_drewN _ _ _⟩ | exact ⟨rfl, _, Eq.trans (World.drewN_drewN _ _ _) (congrArg (World.drewN _) (Nat.add_assoc _ _ _))⟩)))
          go_wp2_with (first | ((with_reducible refine gate_store (t := 27) (p := 4) rfl ?_); refine row_event (by rfl) (by rfl) (by rfl) (by rfl) (by rfl) (by first | exact A2.out | exact blk_drewN A2.out _) (by exact size27) (by rfl) (by first | rfl | simp [Value.oneCell']) ?_; intro w8 hz8 ho8 hb8; have Z8 := Lib.hid hz8; have HB8 := Lib.hid (hb8 (Nat.le_refl _) (by first | exact A3.out | exact pw_below_drewN A3.out _)); clear hb8 ho8 hz8))
          refine bodyPost_ret (results_cell_row_tmp rfl _ _ w.heap.size 27 _ (0, 0) _ rfl Z8.out hu27 rfl (by exact size27)) rfl ?_
          first | exact ⟨none, 0, none, 0, rfl, NIL.out, .inl rfl, HB8.out⟩ | exact ⟨none, 0, none, 0, rfl, NIL.out, .inl trivial, HB8.out⟩ | exact ⟨none, 0, none, 0, rfl, NIL.out, HB8.out⟩
        by_cases n1 : (x.f4.length : Int) ≤ ki
        · obtain rfl := (KEY (some (ki)) hR).2.1 _ rfl (.inr n1)
          have t0 : decide (ki < 0) = false := decide_eq_false n0
          have t1 : decide ((x.f4.length : Int) ≤ ki) = true := decide_eq_true n1
          clear KEY hR KR
          go_enter Tryz.func62, Tryz.ntmps62
          go_upto_region 1 with (fail)
          generalize hw4 : w.alloc zeros = w4 at *
          clear hw4
          go_wp2
          go_quiet (first | (go_at_call 81; (with_reducible refine (CK.out _ (by first | exact A3.out | exact pw_below_drewN A3.out _)).mono ?_); rintro e w' ⟨rfl, ⟨nd, rfl⟩⟩; (try first | exact ⟨rfl, _, World.drewN_drewN _ _ _⟩ | exact ⟨rfl, _, Eq.trans (World.drewN_drewN _ _ _) (congrArg (World.drewN _) (Nat.add_assoc _ _ _))⟩)))
          go_wp2_with (first | ((with_reducible refine gate_store (t := 27) (p := 4) rfl ?_); refine row_event (by rfl) (by rfl) (by rfl) (by rfl) (by rfl) (by first | exact A2.out | exact blk_drewN A2.out _) (by exact size27) (by rfl) (by first | rfl | simp [Value.oneCell']) ?_; intro w8 hz8 ho8 hb8; have Z8 := Lib.hid hz8; have HB8 := Lib.hid (hb8 (Nat.le_refl _) (by first | exact A3.out | exact pw_below_drewN A3.out _)); clear hb8 ho8 hz8))
          refine bodyPost_ret (results_cell_row_tmp rfl _ _ w.heap.size 27 _ (0, 0) _ rfl Z8.out hu27 rfl (by exact size27)) rfl ?_
          first | exact ⟨none, 0, none, 0, rfl, NIL.out, .inl rfl, HB8.out⟩ | exact ⟨none, 0, none, 0, rfl, NIL.out, .inl trivial, HB8.out⟩ | exact ⟨none, 0, none, 0, rfl, NIL.out, HB8.out⟩
        · skip
          have n2 : 0 ≤ ki := by omega
          have n3 : ki < (x.f4.length : Int) := by omega
          obtain rfl := (KEY (some (ki)) hR).2.2 _ rfl n2 n3
          have t0 : decide (ki < 0) = false := decide_eq_false n0
          have t1 : decide ((x.f4.length : Int) ≤ ki) = false := decide_eq_false n1
          have hm : rd_T27 x.f4 ki ∈ x.f4 := rd_mem x.f4 _ n2 n3
          obtain ⟨ad, E4, e4, E5, e5, rfl, hAt, hl4, hk4, hl5, hk5⟩ := At.of_elem HRW.out.k4 (ki) n2 n3
          have HQ := Lib.hid (⟨hk4, hl4, hk5, hl5⟩ : Rows4 w0 (rd_T27 x.f4 (ki)) E4 e4 E5 e5)
          have q0 := eq_true n2
          have q1 := eq_true n3
          obtain ⟨a0, a1, a2, a3, a4, a5⟩ := hAt.below (below_alloc HB0.out zeros)
          clear hl4 hk4 hl5 hk5 hAt n0 n1 n2 n3
          clear KEY hR KR
          go_enter Tryz.func62, Tryz.ntmps62
          go_upto_region 1 with (fail)
          generalize hw4 : w.alloc zeros = w4 at *
          clear hw4
          go_wp2
          go_quiet (first | (go_at_call 81; (with_reducible refine (CK.out _ (by first | exact A3.out | exact pw_below_drewN A3.out _)).mono ?_); rintro e w' ⟨rfl, ⟨nd, rfl⟩⟩; (try first | exact ⟨rfl, _, World.drewN_drewN _ _ _⟩ | exact ⟨rfl, _, Eq.trans (World.drewN_drewN _ _ _) (congrArg (World.drewN _) (Nat.add_assoc _ _ _))⟩)))
          go_wp2_with (first | ((with_reducible refine gate_store (t := 27) (p := 4) rfl ?_); refine row_event (by rfl) (by rfl) (by rfl) (by rfl) (by rfl) (by first | exact A2.out | exact blk_drewN A2.out _) (by exact size27) (by rfl) (by first | rfl | simp [Value.oneCell']) ?_; intro w8 hz8 ho8 hb8; have Z8 := Lib.hid hz8; have HB8 := Lib.hid (hb8 (Nat.le_refl _) (by first | exact A3.out | exact pw_below_drewN A3.out _)); clear hb8 ho8 hz8))
          refine bodyPost_ret (results_cell_row_tmp rfl _ _ w.heap.size 27 _ (0, 0) _ rfl Z8.out hu27 rfl (by exact size27)) rfl ?_
          exact ⟨_, _, _, _, rfl, HQ.out, .inr hm, HB8.out⟩
      · have c4' : (y.f0 == 4) = false := by simpa using c4
        rw [if_neg (by rw [c4']; simp)] at hR
        clear c4
        obtain rfl := (KEY none hR).1 rfl
        clear KEY hR KR CK
        go_enter Tryz.func62, Tryz.ntmps62
        go_upto_region 1 with (fail)
        generalize hw4 : w.alloc zeros = w4 at *
        clear hw4
        go_wp2_with (first | ((with_reducible refine gate_store (t := 27) (p := 4) rfl ?_); refine row_event (by rfl) (by rfl) (by rfl) (by rfl) (by rfl) (by first | exact A2.out | exact blk_drewN A2.out _) (by exact size27) (by rfl) (by first | rfl | simp [Value.oneCell']) ?_; intro w8 hz8 ho8 hb8; have Z8 := Lib.hid hz8; have HB8 := Lib.hid (hb8 (Nat.le_refl _) (by first | exact A3.out | exact pw_below_drewN A3.out _)); clear hb8 ho8 hz8))
        refine bodyPost_ret (results_cell_row_tmp rfl _ _ w.heap.size 27 _ (0, 0) _ rfl Z8.out hu27 rfl (by exact size27)) rfl ?_
        first | exact ⟨none, 0, none, 0, rfl, NIL.out, .inl rfl, HB8.out⟩ | exact ⟨none, 0, none, 0, rfl, NIL.out, .inl trivial, HB8.out⟩ | exact ⟨none, 0, none, 0, rfl, NIL.out, HB8.out⟩
    · have c3' : (x.f0 == 6) = false := by simpa using c3
      rw [if_neg (by rw [c3']; simp)] at hR
      clear c3
      obtain rfl := (KEY none hR).1 rfl
      clear KEY hR KR CK
      go_enter Tryz.func62, Tryz.ntmps62
      go_upto_region 1 with (fail)
      generalize hw4 : w.alloc zeros = w4 at *
      clear hw4
      go_wp2_with (first | ((with_reducible refine gate_store (t := 27) (p := 4) rfl ?_); refine row_event (by rfl) (by rfl) (by rfl) (by rfl) (by rfl) (by first | exact A2.out | exact blk_drewN A2.out _) (by exact size27) (by rfl) (by first | rfl | simp [Value.oneCell']) ?_; intro w8 hz8 ho8 hb8; have Z8 := Lib.hid hz8; have HB8 := Lib.hid (hb8 (Nat.le_refl _) (by first | exact A3.out | exact pw_below_drewN A3.out _)); clear hb8 ho8 hz8))
      refine bodyPost_ret (results_cell_row_tmp rfl _ _ w.heap.size 27 _ (0, 0) _ rfl Z8.out hu27 rfl (by exact size27)) rfl ?_
      first | exact ⟨none, 0, none, 0, rfl, NIL.out, .inl rfl, HB8.out⟩ | exact ⟨none, 0, none, 0, rfl, NIL.out, .inl trivial, HB8.out⟩ | exact ⟨none, 0, none, 0, rfl, NIL.out, HB8.out⟩
end Go.Proofs.YtdghnfmhcnlppaaGreatDoor.Fns
