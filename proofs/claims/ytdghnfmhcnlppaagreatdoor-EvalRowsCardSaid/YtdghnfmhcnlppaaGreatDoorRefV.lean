/- The reference's ValueMay, True, and SameValue of any trees, walked. -/
import Derived.Test.YtdghnfmhcnlppaaGreatDoorValues
import Derived.Test.YtdghnfmhcnlppaaGreatDoorSv
import Derived.Test.YtdghnfmhcnlppaaGreatDoorRefReal
namespace Go.Proofs.YtdghnfmhcnlppaaGreatDoor.Values
open Go.RowKit Go.Proofs.YtdghnfmhcnlppaaGreatDoor.Q Go.Proofs.YtdghnfmhcnlppaaGreatDoor.Real Go.Proofs.YtdghnfmhcnlppaaGreatDoor.RealPure Go.Proofs.YtdghnfmhcnlppaaGreatDoorW.PrintWords Go.Proofs.YtdghnfmhcnlppaaGreatDoorW.PrintLast Go.Proofs.YtdghnfmhcnlppaaGreatDoorW.PrintMore
set_option linter.unusedSimpArgs false
set_option linter.unusedVariables false

set_option maxHeartbeats 32000000 in
set_option maxRecDepth 100000 in
theorem shape_calls (x : V) (A4 : Option Addr) (c4 : Nat) (A5 : Option Addr) (c5 : Nat) (w : World) (h : Rows4 w x A4 c4 A5 c5) :
    Calls Tryz.prog 69 #[arg x A4 c4 A5 c5] w fun e w' => e = .returned (.bool (ownB x)) ∧ Below w.heap.size w w' := by
  have hu27 := Tryz.underlying27
  have K5 := Lib.hid h.k5
  have L5 := Lib.hid h.l5
  have hlen : x.f5.length ≤ 9223372036854775807 := h.k5.2.1
  clear h
  unfold ownB plainB
  obtain ⟨k, i, u, s, l4, l5⟩ := x
  show Calls _ _ #[.agg #[.int .i64 k, .int .i64 i, .int .u64 u, .string s, .slice A4 l4.length c4, .slice A5 l5.length c5]] _ _
  simp only at K5 L5 hlen ⊢
  have hkb : keysB l5 = keysFrom l5 l5.length 0 := rfl
  generalize hn5 : l5.length = n5 at *
  generalize l4.length = n4
  generalize keysB l5 = kb at hkb ⊢
  have HKB := Lib.hid hkb
  have HLEN := Lib.hid hlen
  have HN5 := Lib.hid hn5
  have HS := Lib.hid (show s.toList = [] → s.size = 0 from fun h0 => by have h1 : s.data.toList = [] := by rw [← Lib.toList_data]; exact h0
                                                                        show s.data.size = 0; rw [← Array.length_toList, h1]; rfl)
  clear hkb hlen hn5
  refine kinds_of k _ fun b0 b1 b2 b3 b4 b5 b6 e0 e1 e2 e3 e4 e5 e6 hm => ?_
  rw [e0, e1, e2, e3, e4, e5, e6]
  (simp only [List.mem_cons, List.not_mem_nil, or_false, Prod.mk.injEq] at hm; rcases hm with ⟨rfl, rfl, rfl, rfl, rfl, rfl, rfl⟩ | ⟨rfl, rfl, rfl, rfl, rfl, rfl, rfl⟩ | ⟨rfl, rfl, rfl, rfl, rfl, rfl, rfl⟩ | ⟨rfl, rfl, rfl, rfl, rfl, rfl, rfl⟩ | ⟨rfl, rfl, rfl, rfl, rfl, rfl, rfl⟩ | ⟨rfl, rfl, rfl, rfl, rfl, rfl, rfl⟩ | ⟨rfl, rfl, rfl, rfl, rfl, rfl, rfl⟩ | ⟨rfl, rfl, rfl, rfl, rfl, rfl, rfl⟩)
  · obtain rfl : k = 0 := eq_of_beq e0
    clear e0 e1 e2 e3 e4 e5 e6
    go_enter Tryz.func69, Tryz.ntmps69
    go_wp2_with (first | ((with_reducible refine gate_dst (N := 1) rfl ?_); (try (refine gate_guard (by rfl) ?_; dsimp only)); refine box_event ?hg (N := 1) ?hd (cs := #[.int .i64 0, .int .i64 i, .int .u64 u, .string s, .slice A4 n4 c4, .slice A5 n5 c5]) (t := 27) ?hr ?_; (case hd => rfl); (case hg => rfl); (case hr => first | (go_simp; done) | (go_simp; rfl)); intro gb hg wgb hbox hb; have BK := Lib.hid hbox; have HB := Lib.hid hb; have g0 := (blk_cell hbox 0).trans rfl; have g1 := (blk_cell hbox 1).trans rfl; have g2 := (blk_cell hbox 2).trans rfl; have g3 := (blk_cell hbox 3).trans rfl; have g4 := (blk_cell hbox 4).trans rfl; have g5 := (blk_cell hbox 5).trans rfl; clear hb hbox hg))
    all_goals first
      | (go_ret; refine ⟨?_, HB.out⟩; (try have z0 := HS.out (by assumption)); first | (exfalso; omega) | ((try have z1 : decide (s.size ≤ 65536) = true := decide_eq_true (by omega)); (try have z1 : decide (s.size ≤ 65536) = false := decide_eq_false (by omega)); (try have z2 : decide (n4 ≤ 64) = true := decide_eq_true (by omega)); (try have z2 : decide (n4 ≤ 64) = false := decide_eq_false (by omega)); (try have z3 : ((n5 : Int) == 0) = true := beq_iff_eq.2 (by omega)); (try have z4 : ((n4 : Int) == 0) = true := beq_iff_eq.2 (by omega)); first | (simp [*]; done) | (simp [*] <;> omega) | (simp [intB, *] <;> omega)))
      | skip
    all_goals
        go_loopg [4] n5 (fun kq v4 w' => ∃ (j : Int), v4 = .int .i64 j ∧ Aside0 (j + kq = n5 ∧ 0 ≤ j) ∧ Aside0 (kb = keysFrom l5 kq j.toNat) ∧ Aside0 (w'.heap[gb]? = some (.cells #[.int .i64 0, .int .i64 i, .int .u64 u, .string s, .slice A4 n4 c4, .slice A5 n5 c5] 27 (0, 0))) ∧ Aside0 (Below w.heap.size w w'))
        case atStart => exact ⟨0, rfl, ⟨by omega, by omega⟩, ⟨HKB.out⟩, ⟨BK.out⟩, ⟨HB.out⟩⟩
        case round =>
          have LEN := HLEN.out
          obtain ⟨j, rfl, HI, HM, BKr, HBr⟩ := hrel
          obtain ⟨hi1, hi0⟩ := HI.out
          clear g0 g1 g2 g3 g4 g5
          have g0 := (blk_cell BKr.out 0).trans rfl; have g1 := (blk_cell BKr.out 1).trans rfl; have g2 := (blk_cell BKr.out 2).trans rfl; have g3 := (blk_cell BKr.out 3).trans rfl; have g4 := (blk_cell BKr.out 4).trans rfl; have g5 := (blk_cell BKr.out 5).trans rfl
          cases gk with
          | zero =>
            have hlt : decide (j < (n5 : Int)) = false := decide_eq_false (by omega)
            have hkt : kb = true := HM.out
            clear hi1 hi0 LEN
            go_wp2
            all_goals (go_ret; refine ⟨?_, HBr.out⟩; (try have z0 := HS.out (by assumption)); first | (exfalso; omega) | ((try have z1 : decide (s.size ≤ 65536) = true := decide_eq_true (by omega)); (try have z1 : decide (s.size ≤ 65536) = false := decide_eq_false (by omega)); (try have z2 : decide (n4 ≤ 64) = true := decide_eq_true (by omega)); (try have z2 : decide (n4 ≤ 64) = false := decide_eq_false (by omega)); (try have z3 : ((n5 : Int) == 0) = true := beq_iff_eq.2 (by omega)); (try have z4 : ((n4 : Int) == 0) = true := beq_iff_eq.2 (by omega)); first | (simp [*]; done) | (simp [*] <;> omega) | (simp [intB, *] <;> omega)))
          | succ k2 => exfalso; omega
  · obtain rfl : k = 1 := eq_of_beq e1
    clear e0 e1 e2 e3 e4 e5 e6
    go_enter Tryz.func69, Tryz.ntmps69
    go_wp2_with (first | ((with_reducible refine gate_dst (N := 1) rfl ?_); (try (refine gate_guard (by rfl) ?_; dsimp only)); refine box_event ?hg (N := 1) ?hd (cs := #[.int .i64 1, .int .i64 i, .int .u64 u, .string s, .slice A4 n4 c4, .slice A5 n5 c5]) (t := 27) ?hr ?_; (case hd => rfl); (case hg => rfl); (case hr => first | (go_simp; done) | (go_simp; rfl)); intro gb hg wgb hbox hb; have BK := Lib.hid hbox; have HB := Lib.hid hb; have g0 := (blk_cell hbox 0).trans rfl; have g1 := (blk_cell hbox 1).trans rfl; have g2 := (blk_cell hbox 2).trans rfl; have g3 := (blk_cell hbox 3).trans rfl; have g4 := (blk_cell hbox 4).trans rfl; have g5 := (blk_cell hbox 5).trans rfl; clear hb hbox hg))
    all_goals first
      | (go_ret; refine ⟨?_, HB.out⟩; (try have z0 := HS.out (by assumption)); first | (exfalso; omega) | ((try have z1 : decide (s.size ≤ 65536) = true := decide_eq_true (by omega)); (try have z1 : decide (s.size ≤ 65536) = false := decide_eq_false (by omega)); (try have z2 : decide (n4 ≤ 64) = true := decide_eq_true (by omega)); (try have z2 : decide (n4 ≤ 64) = false := decide_eq_false (by omega)); (try have z3 : ((n5 : Int) == 0) = true := beq_iff_eq.2 (by omega)); (try have z4 : ((n4 : Int) == 0) = true := beq_iff_eq.2 (by omega)); first | (simp [*]; done) | (simp [*] <;> omega) | (simp [intB, *] <;> omega)))
      | skip
  · obtain rfl : k = 2 := eq_of_beq e2
    clear e0 e1 e2 e3 e4 e5 e6
    go_enter Tryz.func69, Tryz.ntmps69
    go_wp2_with (first | ((with_reducible refine gate_dst (N := 1) rfl ?_); (try (refine gate_guard (by rfl) ?_; dsimp only)); refine box_event ?hg (N := 1) ?hd (cs := #[.int .i64 2, .int .i64 i, .int .u64 u, .string s, .slice A4 n4 c4, .slice A5 n5 c5]) (t := 27) ?hr ?_; (case hd => rfl); (case hg => rfl); (case hr => first | (go_simp; done) | (go_simp; rfl)); intro gb hg wgb hbox hb; have BK := Lib.hid hbox; have HB := Lib.hid hb; have g0 := (blk_cell hbox 0).trans rfl; have g1 := (blk_cell hbox 1).trans rfl; have g2 := (blk_cell hbox 2).trans rfl; have g3 := (blk_cell hbox 3).trans rfl; have g4 := (blk_cell hbox 4).trans rfl; have g5 := (blk_cell hbox 5).trans rfl; clear hb hbox hg))
    all_goals first
      | (go_ret; refine ⟨?_, HB.out⟩; (try have z0 := HS.out (by assumption)); first | (exfalso; omega) | ((try have z1 : decide (s.size ≤ 65536) = true := decide_eq_true (by omega)); (try have z1 : decide (s.size ≤ 65536) = false := decide_eq_false (by omega)); (try have z2 : decide (n4 ≤ 64) = true := decide_eq_true (by omega)); (try have z2 : decide (n4 ≤ 64) = false := decide_eq_false (by omega)); (try have z3 : ((n5 : Int) == 0) = true := beq_iff_eq.2 (by omega)); (try have z4 : ((n4 : Int) == 0) = true := beq_iff_eq.2 (by omega)); first | (simp [*]; done) | (simp [*] <;> omega) | (simp [intB, *] <;> omega)))
      | skip
  · obtain rfl : k = 3 := eq_of_beq e3
    clear e0 e1 e2 e3 e4 e5 e6
    go_enter Tryz.func69, Tryz.ntmps69
    go_wp2_with (first | ((with_reducible refine gate_dst (N := 1) rfl ?_); (try (refine gate_guard (by rfl) ?_; dsimp only)); refine box_event ?hg (N := 1) ?hd (cs := #[.int .i64 3, .int .i64 i, .int .u64 u, .string s, .slice A4 n4 c4, .slice A5 n5 c5]) (t := 27) ?hr ?_; (case hd => rfl); (case hg => rfl); (case hr => first | (go_simp; done) | (go_simp; rfl)); intro gb hg wgb hbox hb; have BK := Lib.hid hbox; have HB := Lib.hid hb; have g0 := (blk_cell hbox 0).trans rfl; have g1 := (blk_cell hbox 1).trans rfl; have g2 := (blk_cell hbox 2).trans rfl; have g3 := (blk_cell hbox 3).trans rfl; have g4 := (blk_cell hbox 4).trans rfl; have g5 := (blk_cell hbox 5).trans rfl; clear hb hbox hg))
    all_goals first
      | (go_ret; refine ⟨?_, HB.out⟩; (try have z0 := HS.out (by assumption)); first | (exfalso; omega) | ((try have z1 : decide (s.size ≤ 65536) = true := decide_eq_true (by omega)); (try have z1 : decide (s.size ≤ 65536) = false := decide_eq_false (by omega)); (try have z2 : decide (n4 ≤ 64) = true := decide_eq_true (by omega)); (try have z2 : decide (n4 ≤ 64) = false := decide_eq_false (by omega)); (try have z3 : ((n5 : Int) == 0) = true := beq_iff_eq.2 (by omega)); (try have z4 : ((n4 : Int) == 0) = true := beq_iff_eq.2 (by omega)); first | (simp [*]; done) | (simp [*] <;> omega) | (simp [intB, *] <;> omega)))
      | skip
    all_goals
        go_loopg [4] n5 (fun kq v4 w' => ∃ (j : Int), v4 = .int .i64 j ∧ Aside0 (j + kq = n5 ∧ 0 ≤ j) ∧ Aside0 (kb = keysFrom l5 kq j.toNat) ∧ Aside0 (w'.heap[gb]? = some (.cells #[.int .i64 3, .int .i64 i, .int .u64 u, .string s, .slice A4 n4 c4, .slice A5 n5 c5] 27 (0, 0))) ∧ Aside0 (Below w.heap.size w w'))
        case atStart => exact ⟨0, rfl, ⟨by omega, by omega⟩, ⟨HKB.out⟩, ⟨BK.out⟩, ⟨HB.out⟩⟩
        case round =>
          have LEN := HLEN.out
          obtain ⟨j, rfl, HI, HM, BKr, HBr⟩ := hrel
          obtain ⟨hi1, hi0⟩ := HI.out
          clear g0 g1 g2 g3 g4 g5
          have g0 := (blk_cell BKr.out 0).trans rfl; have g1 := (blk_cell BKr.out 1).trans rfl; have g2 := (blk_cell BKr.out 2).trans rfl; have g3 := (blk_cell BKr.out 3).trans rfl; have g4 := (blk_cell BKr.out 4).trans rfl; have g5 := (blk_cell BKr.out 5).trans rfl
          cases gk with
          | zero =>
            have hlt : decide (j < (n5 : Int)) = false := decide_eq_false (by omega)
            have hkt : kb = true := HM.out
            clear hi1 hi0 LEN
            go_wp2
            all_goals (go_ret; refine ⟨?_, HBr.out⟩; (try have z0 := HS.out (by assumption)); first | (exfalso; omega) | ((try have z1 : decide (s.size ≤ 65536) = true := decide_eq_true (by omega)); (try have z1 : decide (s.size ≤ 65536) = false := decide_eq_false (by omega)); (try have z2 : decide (n4 ≤ 64) = true := decide_eq_true (by omega)); (try have z2 : decide (n4 ≤ 64) = false := decide_eq_false (by omega)); (try have z3 : ((n5 : Int) == 0) = true := beq_iff_eq.2 (by omega)); (try have z4 : ((n4 : Int) == 0) = true := beq_iff_eq.2 (by omega)); first | (simp [*]; done) | (simp [*] <;> omega) | (simp [intB, *] <;> omega)))
          | succ k2 => exfalso; omega
  · obtain rfl : k = 4 := eq_of_beq e4
    clear e0 e1 e2 e3 e4 e5 e6
    go_enter Tryz.func69, Tryz.ntmps69
    go_wp2_with (first | ((with_reducible refine gate_dst (N := 1) rfl ?_); (try (refine gate_guard (by rfl) ?_; dsimp only)); refine box_event ?hg (N := 1) ?hd (cs := #[.int .i64 4, .int .i64 i, .int .u64 u, .string s, .slice A4 n4 c4, .slice A5 n5 c5]) (t := 27) ?hr ?_; (case hd => rfl); (case hg => rfl); (case hr => first | (go_simp; done) | (go_simp; rfl)); intro gb hg wgb hbox hb; have BK := Lib.hid hbox; have HB := Lib.hid hb; have g0 := (blk_cell hbox 0).trans rfl; have g1 := (blk_cell hbox 1).trans rfl; have g2 := (blk_cell hbox 2).trans rfl; have g3 := (blk_cell hbox 3).trans rfl; have g4 := (blk_cell hbox 4).trans rfl; have g5 := (blk_cell hbox 5).trans rfl; clear hb hbox hg))
    all_goals first
      | (go_ret; refine ⟨?_, HB.out⟩; (try have z0 := HS.out (by assumption)); first | (exfalso; omega) | ((try have z1 : decide (s.size ≤ 65536) = true := decide_eq_true (by omega)); (try have z1 : decide (s.size ≤ 65536) = false := decide_eq_false (by omega)); (try have z2 : decide (n4 ≤ 64) = true := decide_eq_true (by omega)); (try have z2 : decide (n4 ≤ 64) = false := decide_eq_false (by omega)); (try have z3 : ((n5 : Int) == 0) = true := beq_iff_eq.2 (by omega)); (try have z4 : ((n4 : Int) == 0) = true := beq_iff_eq.2 (by omega)); first | (simp [*]; done) | (simp [*] <;> omega) | (simp [intB, *] <;> omega)))
      | skip
    all_goals
        go_loopg [4] n5 (fun kq v4 w' => ∃ (j : Int), v4 = .int .i64 j ∧ Aside0 (j + kq = n5 ∧ 0 ≤ j) ∧ Aside0 (kb = keysFrom l5 kq j.toNat) ∧ Aside0 (w'.heap[gb]? = some (.cells #[.int .i64 4, .int .i64 i, .int .u64 u, .string s, .slice A4 n4 c4, .slice A5 n5 c5] 27 (0, 0))) ∧ Aside0 (Below w.heap.size w w'))
        case atStart => exact ⟨0, rfl, ⟨by omega, by omega⟩, ⟨HKB.out⟩, ⟨BK.out⟩, ⟨HB.out⟩⟩
        case round =>
          have LEN := HLEN.out
          obtain ⟨j, rfl, HI, HM, BKr, HBr⟩ := hrel
          obtain ⟨hi1, hi0⟩ := HI.out
          clear g0 g1 g2 g3 g4 g5
          have g0 := (blk_cell BKr.out 0).trans rfl; have g1 := (blk_cell BKr.out 1).trans rfl; have g2 := (blk_cell BKr.out 2).trans rfl; have g3 := (blk_cell BKr.out 3).trans rfl; have g4 := (blk_cell BKr.out 4).trans rfl; have g5 := (blk_cell BKr.out 5).trans rfl
          cases gk with
          | zero =>
            have hlt : decide (j < (n5 : Int)) = false := decide_eq_false (by omega)
            have hkt : kb = true := HM.out
            clear hi1 hi0 LEN
            go_wp2
            all_goals (go_ret; refine ⟨?_, HBr.out⟩; (try have z0 := HS.out (by assumption)); first | (exfalso; omega) | ((try have z1 : decide (s.size ≤ 65536) = true := decide_eq_true (by omega)); (try have z1 : decide (s.size ≤ 65536) = false := decide_eq_false (by omega)); (try have z2 : decide (n4 ≤ 64) = true := decide_eq_true (by omega)); (try have z2 : decide (n4 ≤ 64) = false := decide_eq_false (by omega)); (try have z3 : ((n5 : Int) == 0) = true := beq_iff_eq.2 (by omega)); (try have z4 : ((n4 : Int) == 0) = true := beq_iff_eq.2 (by omega)); first | (simp [*]; done) | (simp [*] <;> omega) | (simp [intB, *] <;> omega)))
          | succ k2 => exfalso; omega
  · obtain rfl : k = 5 := eq_of_beq e5
    clear e0 e1 e2 e3 e4 e5 e6
    go_enter Tryz.func69, Tryz.ntmps69
    go_wp2_with (first | ((with_reducible refine gate_dst (N := 1) rfl ?_); (try (refine gate_guard (by rfl) ?_; dsimp only)); refine box_event ?hg (N := 1) ?hd (cs := #[.int .i64 5, .int .i64 i, .int .u64 u, .string s, .slice A4 n4 c4, .slice A5 n5 c5]) (t := 27) ?hr ?_; (case hd => rfl); (case hg => rfl); (case hr => first | (go_simp; done) | (go_simp; rfl)); intro gb hg wgb hbox hb; have BK := Lib.hid hbox; have HB := Lib.hid hb; have g0 := (blk_cell hbox 0).trans rfl; have g1 := (blk_cell hbox 1).trans rfl; have g2 := (blk_cell hbox 2).trans rfl; have g3 := (blk_cell hbox 3).trans rfl; have g4 := (blk_cell hbox 4).trans rfl; have g5 := (blk_cell hbox 5).trans rfl; clear hb hbox hg))
    all_goals first
      | (go_ret; refine ⟨?_, HB.out⟩; (try have z0 := HS.out (by assumption)); first | (exfalso; omega) | ((try have z1 : decide (s.size ≤ 65536) = true := decide_eq_true (by omega)); (try have z1 : decide (s.size ≤ 65536) = false := decide_eq_false (by omega)); (try have z2 : decide (n4 ≤ 64) = true := decide_eq_true (by omega)); (try have z2 : decide (n4 ≤ 64) = false := decide_eq_false (by omega)); (try have z3 : ((n5 : Int) == 0) = true := beq_iff_eq.2 (by omega)); (try have z4 : ((n4 : Int) == 0) = true := beq_iff_eq.2 (by omega)); first | (simp [*]; done) | (simp [*] <;> omega) | (simp [intB, *] <;> omega)))
      | skip
    all_goals
        go_loopg [4] n5 (fun kq v4 w' => ∃ (j : Int), v4 = .int .i64 j ∧ Aside0 (j + kq = n5 ∧ 0 ≤ j) ∧ Aside0 (kb = keysFrom l5 kq j.toNat) ∧ Aside0 (w'.heap[gb]? = some (.cells #[.int .i64 5, .int .i64 i, .int .u64 u, .string s, .slice A4 n4 c4, .slice A5 n5 c5] 27 (0, 0))) ∧ Aside0 (Below w.heap.size w w'))
        case atStart => exact ⟨0, rfl, ⟨by omega, by omega⟩, ⟨HKB.out⟩, ⟨BK.out⟩, ⟨HB.out⟩⟩
        case round =>
          have LEN := HLEN.out
          obtain ⟨j, rfl, HI, HM, BKr, HBr⟩ := hrel
          obtain ⟨hi1, hi0⟩ := HI.out
          clear g0 g1 g2 g3 g4 g5
          have g0 := (blk_cell BKr.out 0).trans rfl; have g1 := (blk_cell BKr.out 1).trans rfl; have g2 := (blk_cell BKr.out 2).trans rfl; have g3 := (blk_cell BKr.out 3).trans rfl; have g4 := (blk_cell BKr.out 4).trans rfl; have g5 := (blk_cell BKr.out 5).trans rfl
          cases gk with
          | zero =>
            have hlt : decide (j < (n5 : Int)) = false := decide_eq_false (by omega)
            have hkt : kb = true := HM.out
            clear hi1 hi0 LEN
            go_wp2
            all_goals (go_ret; refine ⟨?_, HBr.out⟩; (try have z0 := HS.out (by assumption)); first | (exfalso; omega) | ((try have z1 : decide (s.size ≤ 65536) = true := decide_eq_true (by omega)); (try have z1 : decide (s.size ≤ 65536) = false := decide_eq_false (by omega)); (try have z2 : decide (n4 ≤ 64) = true := decide_eq_true (by omega)); (try have z2 : decide (n4 ≤ 64) = false := decide_eq_false (by omega)); (try have z3 : ((n5 : Int) == 0) = true := beq_iff_eq.2 (by omega)); (try have z4 : ((n4 : Int) == 0) = true := beq_iff_eq.2 (by omega)); first | (simp [*]; done) | (simp [*] <;> omega) | (simp [intB, *] <;> omega)))
          | succ k2 => exfalso; omega
  · obtain rfl : k = 6 := eq_of_beq e6
    clear e0 e1 e2 e3 e4 e5 e6
    have q6 : ∀ b, (n5 == n4) = b → ((n5 : Int) == (n4 : Int)) = b ∧ ((n5 : Int) != (n4 : Int)) = !b := by
      intro b hb
      cases b
      · have : (n5 : Int) ≠ (n4 : Int) := fun h => (ne_of_beq_false hb) (by omega)
        exact ⟨beq_eq_false_iff_ne.2 this, bne_iff_ne.2 this⟩
      · have : (n5 : Int) = (n4 : Int) := by rw [eq_of_beq hb]
        exact ⟨beq_iff_eq.2 this, bne_eq_false_iff_eq.2 this⟩
    generalize hb6 : (n5 == n4) = b6
    obtain ⟨q6a, q6b⟩ := q6 _ hb6
    clear q6
    cases b6
    case false =>
      go_enter Tryz.func69, Tryz.ntmps69
      go_wp2_with (first | ((with_reducible refine gate_dst (N := 1) rfl ?_); (try (refine gate_guard (by rfl) ?_; dsimp only)); refine box_event ?hg (N := 1) ?hd (cs := #[.int .i64 6, .int .i64 i, .int .u64 u, .string s, .slice A4 n4 c4, .slice A5 n5 c5]) (t := 27) ?hr ?_; (case hd => rfl); (case hg => rfl); (case hr => first | (go_simp; done) | (go_simp; rfl)); intro gb hg wgb hbox hb; have BK := Lib.hid hbox; have HB := Lib.hid hb; have g0 := (blk_cell hbox 0).trans rfl; have g1 := (blk_cell hbox 1).trans rfl; have g2 := (blk_cell hbox 2).trans rfl; have g3 := (blk_cell hbox 3).trans rfl; have g4 := (blk_cell hbox 4).trans rfl; have g5 := (blk_cell hbox 5).trans rfl; clear hb hbox hg))
      all_goals first
        | (go_ret; refine ⟨?_, HB.out⟩; (try have z0 := HS.out (by assumption)); first | (exfalso; omega) | ((try have z1 : decide (s.size ≤ 65536) = true := decide_eq_true (by omega)); (try have z1 : decide (s.size ≤ 65536) = false := decide_eq_false (by omega)); (try have z2 : decide (n4 ≤ 64) = true := decide_eq_true (by omega)); (try have z2 : decide (n4 ≤ 64) = false := decide_eq_false (by omega)); (try have z3 : ((n5 : Int) == 0) = true := beq_iff_eq.2 (by omega)); (try have z4 : ((n4 : Int) == 0) = true := beq_iff_eq.2 (by omega)); first | (simp [*]; done) | (simp [*] <;> omega) | (simp [intB, *] <;> omega)))
        | skip
    case true =>
      simp only [Bool.not_true] at q6b
      go_enter Tryz.func69, Tryz.ntmps69
      go_wp2_with (first | ((with_reducible refine gate_dst (N := 1) rfl ?_); (try (refine gate_guard (by rfl) ?_; dsimp only)); refine box_event ?hg (N := 1) ?hd (cs := #[.int .i64 6, .int .i64 i, .int .u64 u, .string s, .slice A4 n4 c4, .slice A5 n5 c5]) (t := 27) ?hr ?_; (case hd => rfl); (case hg => rfl); (case hr => first | (go_simp; done) | (go_simp; rfl)); intro gb hg wgb hbox hb; have BK := Lib.hid hbox; have HB := Lib.hid hb; have g0 := (blk_cell hbox 0).trans rfl; have g1 := (blk_cell hbox 1).trans rfl; have g2 := (blk_cell hbox 2).trans rfl; have g3 := (blk_cell hbox 3).trans rfl; have g4 := (blk_cell hbox 4).trans rfl; have g5 := (blk_cell hbox 5).trans rfl; clear hb hbox hg))
      all_goals first
        | (go_ret; refine ⟨?_, HB.out⟩; (try have z0 := HS.out (by assumption)); first | (exfalso; omega) | ((try have z1 : decide (s.size ≤ 65536) = true := decide_eq_true (by omega)); (try have z1 : decide (s.size ≤ 65536) = false := decide_eq_false (by omega)); (try have z2 : decide (n4 ≤ 64) = true := decide_eq_true (by omega)); (try have z2 : decide (n4 ≤ 64) = false := decide_eq_false (by omega)); (try have z3 : ((n5 : Int) == 0) = true := beq_iff_eq.2 (by omega)); (try have z4 : ((n4 : Int) == 0) = true := beq_iff_eq.2 (by omega)); first | (simp [*]; done) | (simp [*] <;> omega) | (simp [intB, *] <;> omega)))
        | skip
      all_goals
          go_loopg [4] n5 (fun kq v4 w' => ∃ (j : Int), v4 = .int .i64 j ∧ Aside0 (j + kq = n5 ∧ 0 ≤ j) ∧ Aside0 (kb = keysFrom l5 kq j.toNat) ∧ Aside0 (w'.heap[gb]? = some (.cells #[.int .i64 6, .int .i64 i, .int .u64 u, .string s, .slice A4 n4 c4, .slice A5 n5 c5] 27 (0, 0))) ∧ Aside0 (Below w.heap.size w w'))
          case atStart => exact ⟨0, rfl, ⟨by omega, by omega⟩, ⟨HKB.out⟩, ⟨BK.out⟩, ⟨HB.out⟩⟩
          case round =>
            have LEN := HLEN.out
            obtain ⟨j, rfl, HI, HM, BKr, HBr⟩ := hrel
            obtain ⟨hi1, hi0⟩ := HI.out
            clear g0 g1 g2 g3 g4 g5
            have g0 := (blk_cell BKr.out 0).trans rfl; have g1 := (blk_cell BKr.out 1).trans rfl; have g2 := (blk_cell BKr.out 2).trans rfl; have g3 := (blk_cell BKr.out 3).trans rfl; have g4 := (blk_cell BKr.out 4).trans rfl; have g5 := (blk_cell BKr.out 5).trans rfl
            cases gk with
            | zero =>
              have hlt : decide (j < (n5 : Int)) = false := decide_eq_false (by omega)
              have hkt : kb = true := HM.out
              clear hi1 hi0 LEN
              go_wp2
              all_goals (go_ret; refine ⟨?_, HBr.out⟩; (try have z0 := HS.out (by assumption)); first | (exfalso; omega) | ((try have z1 : decide (s.size ≤ 65536) = true := decide_eq_true (by omega)); (try have z1 : decide (s.size ≤ 65536) = false := decide_eq_false (by omega)); (try have z2 : decide (n4 ≤ 64) = true := decide_eq_true (by omega)); (try have z2 : decide (n4 ≤ 64) = false := decide_eq_false (by omega)); (try have z3 : ((n5 : Int) == 0) = true := beq_iff_eq.2 (by omega)); (try have z4 : ((n4 : Int) == 0) = true := beq_iff_eq.2 (by omega)); first | (simp [*]; done) | (simp [*] <;> omega) | (simp [intB, *] <;> omega)))
            | succ k2 =>
              have hlt : decide (j < (n5 : Int)) = true := decide_eq_true (by omega)
              have hlt' : j < (n5 : Int) := by omega
              have h5 := Kd.C_below K5.out HBr.out
              have hm1 : kb = (okAt l5 j.toNat && keysFrom l5 k2 (j + 1).toNat) := by rw [HM.out, show (j + 1).toNat = j.toNat + 1 by omega]; rfl
              unfold okAt at hm1
              have en := HN5.out
              have hrd : l5.getD j.toNat ByteArray.empty = rdOf ByteArray.empty l5 j := rfl
              rw [hrd] at hm1
              obtain ⟨ad, ea, hx⟩ := Kd.at_string h5 j hi0 hlt'
              subst ea
              have wi' : IntKind.i64.wrap (j + 1) = j + 1 := by rw [i64_w]; exact wrap_small _ (by omega) (by omega)
              have wm' : IntKind.i64.wrap (j - 1) = j - 1 := by rw [i64_w]; exact wrap_small _ (by omega) (by omega)
              have wi : wrap64 (j + 1) = j + 1 := wrap_small _ (by omega) (by omega)
              have wm : wrap64 (j - 1) = j - 1 := wrap_small _ (by omega) (by omega)
              have HI2 := Aside0.mk (show j + 1 + k2 = n5 ∧ 0 ≤ j + 1 from ⟨by omega, by omega⟩)
              by_cases c1 : (rdOf ByteArray.empty l5 j).toList = []
              · have c1b : ((rdOf ByteArray.empty l5 j).toList == ([] : List UInt8)) = true := beq_iff_eq.2 c1
                have hkf : kb = false := by rw [hm1, c1b]; rfl
                have p0 := eq_true hi0; have p1 := eq_true hlt'
                clear hm1 hi1 hi0 LEN hlt' c1 hrd
                go_wp2
                repeat (go_quiet (fail); try go_wp2)
                all_goals (go_ret; exact ⟨by simp [*], by first | exact HBr.out | exact pw_below_drewN HBr.out _⟩)
              have c1b : ((rdOf ByteArray.empty l5 j).toList == ([] : List UInt8)) = false := beq_eq_false_iff_ne.2 c1
              rw [c1b] at hm1
              clear c1
              by_cases c2 : (32 : Int) < ((rdOf ByteArray.empty l5 j).size : Int)
              · have c2b : decide ((rdOf ByteArray.empty l5 j).size ≤ 32) = false := decide_eq_false (by omega)
                have hkf : kb = false := by rw [hm1, c2b]; rfl
                have c2i : decide ((32 : Int) < ((rdOf ByteArray.empty l5 j).size : Int)) = true := decide_eq_true c2
                have p0 := eq_true hi0; have p1 := eq_true hlt'
                clear hm1 hi1 hi0 LEN hlt' c2 c2b hrd
                go_wp2
                repeat (go_quiet (fail); try go_wp2)
                all_goals (go_ret; exact ⟨by simp [*], by first | exact HBr.out | exact pw_below_drewN HBr.out _⟩)
              have c2b : decide ((rdOf ByteArray.empty l5 j).size ≤ 32) = true := decide_eq_true (by omega)
              have c2i : decide ((32 : Int) < ((rdOf ByteArray.empty l5 j).size : Int)) = false := decide_eq_false c2
              rw [c2b] at hm1
              clear c2 c2b
              by_cases c3 : 0 < j
              · have c3b : decide (0 < j) = true := decide_eq_true c3
                have c3n : (j.toNat == 0) = false := beq_eq_false_iff_ne.2 (by omega)
                have hrd1 : l5.getD (j.toNat - 1) ByteArray.empty = rdOf ByteArray.empty l5 (j - 1) := by unfold rdOf; rw [show (j - 1).toNat = j.toNat - 1 by omega]
                rw [c3n, hrd1] at hm1
                obtain ⟨ad1, ea1, hx1⟩ := Kd.at_string h5 (j - 1) (by omega) (by omega)
                obtain rfl := Option.some.inj ea1
                clear ea1
                have q0 : 0 ≤ j - 1 := by omega
                have q1 : j - 1 < (n5 : Int) := by omega
                obtain ⟨jm, hjm⟩ : ∃ q, j - 1 = q := ⟨_, rfl⟩
                rw [hjm] at hx1 q0 q1 hm1
                have wj' : IntKind.i64.wrap (j - 1) = jm := by rw [wm', hjm]
                have wj : wrap64 (j - 1) = jm := by rw [wm, hjm]
                clear wm wm'
                generalize rdOf ByteArray.empty l5 j = r1 at *
                generalize rdOf ByteArray.empty l5 jm = r0 at *
                generalize hbl : Op.bytesLess r0.toList r1.toList = bl at *
                cases bl
                · have hkf : kb = false := hm1
                  have p0 := eq_true hi0; have p1 := eq_true hlt'; have q0' := eq_true q0; have q1' := eq_true q1
                  clear hm1 hi1 hi0 LEN hlt' c3 hrd hrd1 q0 q1 hjm
                  go_wp2
                  repeat (go_quiet (fail); try go_wp2)
                  all_goals (go_ret; exact ⟨by simp [*], by first | exact HBr.out | exact pw_below_drewN HBr.out _⟩)
                · have HM2 := Aside0.mk (show kb = keysFrom l5 k2 (j + 1).toNat from hm1)
                  have p0 := eq_true hi0; have p1 := eq_true hlt'; have q0' := eq_true q0; have q1' := eq_true q1
                  clear hm1 hi1 hi0 LEN hlt' c3 hrd hrd1 q0 q1 hjm
                  go_wp2
                  repeat (go_quiet (fail); try go_wp2)
                  go_roundg k2
                  case measure => omega
                  case rel => exact ⟨j + 1, rfl, HI2, HM2, ⟨by first | exact BKr.out | exact blk_drewN BKr.out _⟩, ⟨by first | exact HBr.out | exact pw_below_drewN HBr.out _⟩⟩
              · have c3b : decide (0 < j) = false := decide_eq_false c3
                have c3n : (j.toNat == 0) = true := beq_iff_eq.2 (by omega)
                rw [c3n] at hm1
                have HM2 := Aside0.mk (show kb = keysFrom l5 k2 (j + 1).toNat by simpa using hm1)
                have p0 := eq_true hi0; have p1 := eq_true hlt'
                clear hm1 hi1 hi0 LEN hlt' c3 hrd
                go_wp2
                repeat (go_quiet (fail); try go_wp2)
                go_roundg k2
                case measure => omega
                case rel => exact ⟨j + 1, rfl, HI2, HM2, ⟨by first | exact BKr.out | exact blk_drewN BKr.out _⟩, ⟨by first | exact HBr.out | exact pw_below_drewN HBr.out _⟩⟩
  · have hk : k < 0 ∨ 6 < k := by
      have q0 := ne_of_beq_false e0; have q1 := ne_of_beq_false e1; have q2 := ne_of_beq_false e2; have q3 := ne_of_beq_false e3; have q4 := ne_of_beq_false e4; have q5 := ne_of_beq_false e5; have q6 := ne_of_beq_false e6
      omega
    rcases hk with hk | hk
    · have d0 : decide (k < 0) = true := decide_eq_true hk
      clear hk
      go_enter Tryz.func69, Tryz.ntmps69
      go_wp2_with (first | ((with_reducible refine gate_dst (N := 1) rfl ?_); (try (refine gate_guard (by rfl) ?_; dsimp only)); refine box_event ?hg (N := 1) ?hd (cs := #[.int .i64 k, .int .i64 i, .int .u64 u, .string s, .slice A4 n4 c4, .slice A5 n5 c5]) (t := 27) ?hr ?_; (case hd => rfl); (case hg => rfl); (case hr => first | (go_simp; done) | (go_simp; rfl)); intro gb hg wgb hbox hb; have BK := Lib.hid hbox; have HB := Lib.hid hb; have g0 := (blk_cell hbox 0).trans rfl; have g1 := (blk_cell hbox 1).trans rfl; have g2 := (blk_cell hbox 2).trans rfl; have g3 := (blk_cell hbox 3).trans rfl; have g4 := (blk_cell hbox 4).trans rfl; have g5 := (blk_cell hbox 5).trans rfl; clear hb hbox hg))
      all_goals (go_ret; refine ⟨?_, HB.out⟩; (try have z0 := HS.out (by assumption)); first | (exfalso; omega) | ((try have z1 : decide (s.size ≤ 65536) = true := decide_eq_true (by omega)); (try have z1 : decide (s.size ≤ 65536) = false := decide_eq_false (by omega)); (try have z2 : decide (n4 ≤ 64) = true := decide_eq_true (by omega)); (try have z2 : decide (n4 ≤ 64) = false := decide_eq_false (by omega)); (try have z3 : ((n5 : Int) == 0) = true := beq_iff_eq.2 (by omega)); (try have z4 : ((n4 : Int) == 0) = true := beq_iff_eq.2 (by omega)); first | (simp [*]; done) | (simp [*] <;> omega) | (simp [intB, *] <;> omega)))
    · have d0 : decide (k < 0) = false := decide_eq_false (by omega)
      have d1 : decide (6 < k) = true := decide_eq_true hk
      clear hk
      go_enter Tryz.func69, Tryz.ntmps69
      go_wp2_with (first | ((with_reducible refine gate_dst (N := 1) rfl ?_); (try (refine gate_guard (by rfl) ?_; dsimp only)); refine box_event ?hg (N := 1) ?hd (cs := #[.int .i64 k, .int .i64 i, .int .u64 u, .string s, .slice A4 n4 c4, .slice A5 n5 c5]) (t := 27) ?hr ?_; (case hd => rfl); (case hg => rfl); (case hr => first | (go_simp; done) | (go_simp; rfl)); intro gb hg wgb hbox hb; have BK := Lib.hid hbox; have HB := Lib.hid hb; have g0 := (blk_cell hbox 0).trans rfl; have g1 := (blk_cell hbox 1).trans rfl; have g2 := (blk_cell hbox 2).trans rfl; have g3 := (blk_cell hbox 3).trans rfl; have g4 := (blk_cell hbox 4).trans rfl; have g5 := (blk_cell hbox 5).trans rfl; clear hb hbox hg))
      all_goals (go_ret; refine ⟨?_, HB.out⟩; (try have z0 := HS.out (by assumption)); first | (exfalso; omega) | ((try have z1 : decide (s.size ≤ 65536) = true := decide_eq_true (by omega)); (try have z1 : decide (s.size ≤ 65536) = false := decide_eq_false (by omega)); (try have z2 : decide (n4 ≤ 64) = true := decide_eq_true (by omega)); (try have z2 : decide (n4 ≤ 64) = false := decide_eq_false (by omega)); (try have z3 : ((n5 : Int) == 0) = true := beq_iff_eq.2 (by omega)); (try have z4 : ((n4 : Int) == 0) = true := beq_iff_eq.2 (by omega)); first | (simp [*]; done) | (simp [*] <;> omega) | (simp [intB, *] <;> omega)))
-- END shape
end Go.Proofs.YtdghnfmhcnlppaaGreatDoor.Values
namespace Go.Proofs.YtdghnfmhcnlppaaGreatDoor.Values
open Go.RowKit Go.Proofs.YtdghnfmhcnlppaaGreatDoor.Q Go.Proofs.YtdghnfmhcnlppaaGreatDoor.Real Go.Proofs.YtdghnfmhcnlppaaGreatDoor.RealPure Go.Proofs.YtdghnfmhcnlppaaGreatDoorW.PrintWords Go.Proofs.YtdghnfmhcnlppaaGreatDoorW.PrintLast Go.Proofs.YtdghnfmhcnlppaaGreatDoorW.PrintMore
set_option linter.unusedSimpArgs false
set_option linter.unusedVariables false

def cntL (f : V → Int) : List V → Int → Int
  | [], k => k
  | y :: ys, k => if k ≤ 1024 then cntL f ys (k + f y) else k
/-- How many values a tree has, at most so deep; beyond the limits 1025. -/
def cntD : Nat → V → Int
  | 0, _ => 1025
  | d + 1, x => if ownB x = true then (if 1025 < cntL (cntD d) x.f4 1 then 1025 else cntL (cntD d) x.f4 1) else 1025
theorem cntL_range (f : V → Int) (hf : ∀ y, 1 ≤ f y ∧ f y ≤ 1025) : ∀ ys k, 1 ≤ k → k ≤ 2049 → 1 ≤ cntL f ys k ∧ cntL f ys k ≤ 2049
  | [], k, h0, h1 => ⟨h0, h1⟩
  | y :: ys, k, h0, h1 => by
    unfold cntL
    have h := hf y
    split
    · exact cntL_range f hf ys _ (by omega) (by omega)
    · exact ⟨h0, h1⟩
theorem cntD_range : ∀ d x, 1 ≤ cntD d x ∧ cntD d x ≤ 1025
  | 0, x => ⟨by show (1 : Int) ≤ 1025; omega, by show (1025 : Int) ≤ 1025; omega⟩
  | d + 1, x => by
    unfold cntD
    have h := cntL_range (cntD d) (cntD_range d) x.f4 1 (by omega) (by omega)
    split
    · split <;> omega
    · omega
theorem cntL_drop (f : V → Int) (xs : List V) (i : Nat) (hi : i < xs.length) (k : Int) :
    cntL f (xs.drop i) k = if k ≤ 1024 then cntL f (xs.drop (i + 1)) (k + f (rd_T27 xs i)) else k := by
  have e : xs.drop i = rd_T27 xs i :: xs.drop (i + 1) := by
    rw [List.drop_eq_getElem_cons hi]
    congr 1
    unfold rd_T27
    simp [hi]
  rw [e]; rfl
theorem cntL_ge (f : V → Int) (hf : ∀ y, 1 ≤ f y ∧ f y ≤ 1025) : ∀ ys k, k ≤ cntL f ys k
  | [], k => Int.le_refl k
  | y :: ys, k => by
    unfold cntL
    have h := hf y
    split
    · have := cntL_ge f hf ys (k + f y); omega
    · exact Int.le_refl k
/-- What it says of may. -/
theorem cnt_may_L (d : Nat) (ih : ∀ x l, 0 ≤ l → l ≤ 1024 → ((mayD d x l).1 = true ↔ cntD d x ≤ l) ∧ ((mayD d x l).1 = true → (mayD d x l).2 = l - cntD d x)) :
    ∀ ys k l, 1 ≤ k → 0 ≤ l → k + l ≤ 1024 → ((mayL (mayD d) ys l).1 = true ↔ cntL (cntD d) ys k ≤ k + l) ∧ ((mayL (mayD d) ys l).1 = true → (mayL (mayD d) ys l).2 = k + l - cntL (cntD d) ys k)
  | [], k, l, h0, h1, h2 => by
    refine ⟨⟨fun _ => ?_, fun _ => rfl⟩, fun _ => ?_⟩
    · show k ≤ k + l; omega
    · show l = k + l - k; omega
  | y :: ys, k, l, h0, h1, h2 => by
    have h := ih y l (by omega) (by omega)
    have hr := cntD_range d y
    unfold mayL cntL
    rw [if_pos (by omega : k ≤ 1024)]
    by_cases c : cntD d y ≤ l
    · rw [if_pos (h.1.2 c), h.2 (h.1.2 c)]
      have q := cnt_may_L d ih ys (k + cntD d y) (l - cntD d y) (by omega) (by omega) (by omega)
      rw [show k + cntD d y + (l - cntD d y) = k + l by omega] at q
      exact q
    · rw [if_neg (fun hh => c (h.1.1 hh))]
      have hge := cntL_ge (cntD d) (cntD_range d) ys (k + cntD d y)
      exact ⟨⟨fun hh => (by cases hh), fun hh => (by omega)⟩, fun hh => by cases hh⟩
theorem cnt_may : ∀ d x l, 0 ≤ l → l ≤ 1024 → ((mayD d x l).1 = true ↔ cntD d x ≤ l) ∧ ((mayD d x l).1 = true → (mayD d x l).2 = l - cntD d x)
  | 0, x, l, h0, h1 => ⟨⟨fun hh => (by cases hh), fun hh => (by have : (1025 : Int) ≤ l := hh; omega)⟩, fun hh => by cases hh⟩
  | d + 1, x, l, h0, h1 => by
    have hr := cntD_range (d + 1) x
    unfold mayD
    by_cases c0 : l - 1 < 0
    · rw [if_pos c0]
      exact ⟨⟨fun hh => (by cases hh), fun hh => (by omega)⟩, fun hh => by cases hh⟩
    rw [if_neg c0]
    by_cases co : ownB x = true
    · rw [if_pos co]
      have q := cnt_may_L d (cnt_may d) x.f4 1 (l - 1) (by omega) (by omega) (by omega)
      rw [show (1 : Int) + (l - 1) = l by omega] at q
      unfold cntD
      rw [if_pos co]
      by_cases c1 : 1025 < cntL (cntD d) x.f4 1
      · rw [if_pos c1]
        have hn : ¬ (mayL (mayD d) x.f4 (l - 1)).1 = true := fun hh => by have := q.1.1 hh; omega
        exact ⟨⟨fun hh => absurd hh hn, fun hh => (by omega)⟩, fun hh => absurd hh hn⟩
      · rw [if_neg c1]; exact q
    · rw [if_neg co]
      unfold cntD
      rw [if_neg co]
      exact ⟨⟨fun hh => (by cases hh), fun hh => (by omega)⟩, fun hh => by cases hh⟩
theorem may_cnt (x : V) : decide (cntD 8 x ≤ 1024) = mayB x := by
  have h := (cnt_may 8 x 1024 (by omega) (by omega)).1
  unfold mayB
  cases hm : (mayD 8 x 1024).1
  · exact decide_eq_false (fun hh => by have := h.2 hh; rw [hm] at this; cases this)
  · exact decide_eq_true (h.1 hm)

def CntC (d : Nat) : Prop := ∀ (x : V) (A4 : Option Addr) (c4 : Nat) (A5 : Option Addr) (c5 : Nat) (w : World), Rows4 w x A4 c4 A5 c5 → d ≤ 8 →
    Calls Tryz.prog 38 #[arg x A4 c4 A5 c5, .int .i64 (d : Int)] w fun e w' => e = .returned (.int .i64 (cntD d x)) ∧ Below w.heap.size w w'
set_option maxHeartbeats 8000000 in
set_option maxRecDepth 100000 in
theorem cnt_zero : CntC 0 := by
  intro x A4 c4 A5 c5 w h _
  show Calls _ _ #[arg x A4 c4 A5 c5, .int .i64 0] _ fun e w' => e = .returned (.int .i64 1025) ∧ _
  clear h
  go_enter Tryz.func38, Tryz.ntmps38
  go_wp2_with (first | ((with_reducible refine gate_dst (N := 2) rfl ?_); (try (refine gate_guard (by rfl) ?_; dsimp only)); refine box_event ?hg (N := 2) ?hd (cs := #[.int .i64 x.f0, .int .i64 x.f1, .int .u64 x.f2, .string x.f3, .slice A4 x.f4.length c4, .slice A5 x.f5.length c5]) (t := 27) ?hr ?_; (case hd => rfl); (case hg => rfl); (case hr => first | (go_simp; done) | (go_simp; rfl)); intro gb hg wgb hbox hb; have BK := Lib.hid hbox; have HB := Lib.hid hb; have g0 := (blk_cell hbox 0).trans rfl; have g1 := (blk_cell hbox 1).trans rfl; have g2 := (blk_cell hbox 2).trans rfl; have g3 := (blk_cell hbox 3).trans rfl; have g4 := (blk_cell hbox 4).trans rfl; have g5 := (blk_cell hbox 5).trans rfl; clear hb hbox hg))
  all_goals (go_ret; exact ⟨rfl, HB.out⟩)
set_option maxHeartbeats 16000000 in
set_option maxRecDepth 100000 in
theorem cnt_succ (d : Nat) (ih : CntC d) : CntC (d + 1) := by
  intro x A4 c4 A5 c5 w h hd
  obtain ⟨dd, hdd⟩ : ∃ dd : Int, ((d + 1 : Nat) : Int) = dd := ⟨_, rfl⟩
  rw [hdd]
  have hd1 : decide (dd < 1) = false := decide_eq_false (by omega)
  have wd : wrap64 (dd - 1) = (d : Int) := by rw [wrap_small _ (by omega) (by omega)]; omega
  have wd' : IntKind.i64.wrap (dd - 1) = (d : Int) := by rw [i64_w]; exact wd
  have IH := Lib.hid (fun x A4 c4 A5 c5 w h => ih x A4 c4 A5 c5 w h (by omega))
  have H0 := Lib.hid h
  have CS := Lib.hid (fun W (hb : Below w.heap.size w W) => shape_calls x A4 c4 A5 c5 W (h.below hb))
  have HK4 := Lib.hid h.k4
  have hlen : x.f4.length ≤ 9223372036854775807 := h.k4.2.1
  have HLEN := Lib.hid hlen
  have hu27 := Tryz.underlying27
  clear h ih hdd hd hlen
  unfold cntD
  obtain ⟨R, hR⟩ : ∃ R, cntL (cntD d) x.f4 1 = R := ⟨_, rfl⟩
  rw [hR]
  have HRR := Lib.hid hR
  have RNG := Lib.hid (cntL_range (cntD d) (cntD_range d) x.f4 1 (by omega) (by omega))
  clear hR
  show Calls _ _ #[.agg #[.int .i64 x.f0, .int .i64 x.f1, .int .u64 x.f2, .string x.f3, .slice A4 x.f4.length c4, .slice A5 x.f5.length c5], .int .i64 dd] _ _
  generalize hob : ownB x = ob at *
  clear hob
  cases ob
  case false =>
    go_enter Tryz.func38, Tryz.ntmps38
    go_wp2_with (first | ((with_reducible refine gate_dst (N := 2) rfl ?_); (try (refine gate_guard (by rfl) ?_; dsimp only)); refine box_event ?hg (N := 2) ?hd (cs := #[.int .i64 x.f0, .int .i64 x.f1, .int .u64 x.f2, .string x.f3, .slice A4 x.f4.length c4, .slice A5 x.f5.length c5]) (t := 27) ?hr ?_; (case hd => rfl); (case hg => rfl); (case hr => first | (go_simp; done) | (go_simp; rfl)); intro gb hg wgb hbox hb; have BK := Lib.hid hbox; have HB := Lib.hid hb; have g0 := (blk_cell hbox 0).trans rfl; have g1 := (blk_cell hbox 1).trans rfl; have g2 := (blk_cell hbox 2).trans rfl; have g3 := (blk_cell hbox 3).trans rfl; have g4 := (blk_cell hbox 4).trans rfl; have g5 := (blk_cell hbox 5).trans rfl; clear hb hbox hg) | (go_at_call 69; (with_reducible refine (CS.out _ HB.out).mono ?_); rintro e w5 ⟨rfl, hb5⟩; have HB5 := Lib.hid (below_step HB.out hb5); clear hb5))
    all_goals (go_ret; exact ⟨rfl, HB5.out⟩)
  case true =>
    go_enter Tryz.func38, Tryz.ntmps38
    go_wp2_with (first | ((with_reducible refine gate_dst (N := 2) rfl ?_); (try (refine gate_guard (by rfl) ?_; dsimp only)); refine box_event ?hg (N := 2) ?hd (cs := #[.int .i64 x.f0, .int .i64 x.f1, .int .u64 x.f2, .string x.f3, .slice A4 x.f4.length c4, .slice A5 x.f5.length c5]) (t := 27) ?hr ?_; (case hd => rfl); (case hg => rfl); (case hr => first | (go_simp; done) | (go_simp; rfl)); intro gb hg wgb hbox hb; have BK := Lib.hid hbox; have HB := Lib.hid hb; have g0 := (blk_cell hbox 0).trans rfl; have g1 := (blk_cell hbox 1).trans rfl; have g2 := (blk_cell hbox 2).trans rfl; have g3 := (blk_cell hbox 3).trans rfl; have g4 := (blk_cell hbox 4).trans rfl; have g5 := (blk_cell hbox 5).trans rfl; clear hb hbox hg) | (go_at_call 69; (with_reducible refine (CS.out _ HB.out).mono ?_); rintro e w5 ⟨rfl, hb5⟩; have HB5 := Lib.hid (below_step HB.out hb5); have BK5 := Lib.hid (blk_below BK.out hb5); clear g0 g1 g2 g3 g4 g5; have g0 := (blk_cell BK5.out 0).trans rfl; have g4 := (blk_cell BK5.out 4).trans rfl; clear hb5))
    go_loopg [5, 6] x.f4.length (fun kq v5 v6 w' => ∃ (k i : Int), v5 = .int .i64 k ∧ v6 = .int .i64 i ∧ Aside0 (i + kq = x.f4.length ∧ 0 ≤ i) ∧ Aside0 (cntL (cntD d) (x.f4.drop i.toNat) k = R) ∧ Aside0 (1 ≤ k ∧ k ≤ 2049) ∧ Aside0 (w'.heap[gb]? = some (.cells #[.int .i64 x.f0, .int .i64 x.f1, .int .u64 x.f2, .string x.f3, .slice A4 x.f4.length c4, .slice A5 x.f5.length c5] 27 (0, 0))) ∧ Aside0 (Below w.heap.size w w'))
    case atStart => exact ⟨1, 0, rfl, rfl, ⟨by omega, by omega⟩, ⟨HRR.out⟩, ⟨by omega, by omega⟩, ⟨BK5.out⟩, ⟨HB5.out⟩⟩
    case round =>
      have LEN := HLEN.out
      obtain ⟨k, i, rfl, rfl, HI, HM, HV, BKr, HBr⟩ := hrel
      obtain ⟨hi1, hi0⟩ := HI.out
      obtain ⟨hv1, hv2⟩ := HV.out
      clear g0 g4
      have g0 := (blk_cell BKr.out 0).trans rfl; have g4 := (blk_cell BKr.out 4).trans rfl
      cases gk with
      | zero =>
        have hlt : decide (i < (x.f4.length : Int)) = false := decide_eq_false (by omega)
        have e := HM.out
        rw [List.drop_of_length_le (by omega)] at e
        have e1 : R = k := e.symm
        subst e1
        clear e hi1 hi0 LEN hv1 hv2
        go_wp2
        all_goals (go_ret; exact ⟨congrArg (fun z => Ending.returned (Value.int .i64 z)) (by omega), HBr.out⟩)
      | succ k2 =>
        have hlt : decide (i < (x.f4.length : Int)) = true := decide_eq_true (by omega)
        have hlt' : i < (x.f4.length : Int) := by omega
        have hstep := cntL_drop (cntD d) x.f4 i.toNat (by omega) k
        rw [HM.out] at hstep
        have er : rd_T27 x.f4 (i.toNat : Nat) = rd_T27 x.f4 i := by unfold rd_T27; rfl
        rw [er] at hstep
        by_cases ck : k ≤ 1024
        · rw [if_pos ck] at hstep
          have ckd : decide (k ≤ 1024) = true := decide_eq_true ck
          obtain ⟨ad, B4, d4, B5, d5, ea, hAt, hl4, hk4, hl5, hk5⟩ := At.of_elem (Kd.C_below HK4.out HBr.out) i hi0 hlt'
          obtain ⟨q0, q1, q2, q3, q4, q5⟩ := hAt
          have CI := Lib.hid (IH.out (rd_T27 x.f4 i) B4 d4 B5 d5 wr ⟨hk4, hl4, hk5, hl5⟩)
          have CI2 := Lib.hid (fun m => IH.out (rd_T27 x.f4 i) B4 d4 B5 d5 (wr.drewN m) ⟨Kd.C_drewN hk4 m, hl4, Kd.C_drewN hk5 m, hl5⟩)
          have hrg := cntD_range d (rd_T27 x.f4 i)
          have en : (i + 1).toNat = i.toNat + 1 := by omega
          rw [← en] at hstep
          generalize cntD d (rd_T27 x.f4 i) = M at CI CI2 hstep hrg
          have wi : wrap64 (i + 1) = i + 1 := wrap_small _ (by omega) (by omega)
          have wi' : IntKind.i64.wrap (i + 1) = i + 1 := by rw [i64_w]; exact wi
          have wk : wrap64 (k + M) = k + M := wrap_small _ (by omega) (by omega)
          have wk' : IntKind.i64.wrap (k + M) = k + M := by rw [i64_w]; exact wk
          have HM2 := Aside0.mk hstep.symm
          have HV2 := Aside0.mk (show 1 ≤ k + M ∧ k + M ≤ 2049 from ⟨by omega, by omega⟩)
          have HI2 := Aside0.mk (show i + 1 + k2 = x.f4.length ∧ 0 ≤ i + 1 from ⟨by omega, by omega⟩)
          have z0 := eq_true hi0; have z1 := eq_true hlt'
          subst ea
          clear hstep er hl4 hk4 hl5 hk5 hrg hi1 hi0 hv1 hv2 LEN hlt' ck en HM
          go_wp2_with (first | (go_at_call 38; (with_reducible refine CI.out.mono ?_); rintro e w' ⟨rfl, hb3⟩; have HB3 := Aside0.mk (below_step HBr.out hb3); have BK3 := Aside0.mk (blk_below BKr.out hb3); clear hb3))
          go_roundg k2
          case measure => omega
          case rel => exact ⟨k + M, i + 1, rfl, rfl, HI2, HM2, HV2, BK3, HB3⟩
        · rw [if_neg ck] at hstep
          have ckd : decide (k ≤ 1024) = false := decide_eq_false ck
          subst hstep
          clear er hi1 hi0 hv1 hv2 LEN hlt' HM HRR
          go_wp2
          all_goals (go_ret; exact ⟨congrArg (fun z => Ending.returned (Value.int .i64 z)) (by omega), HBr.out⟩)

theorem cnt_all : ∀ d, CntC d
  | 0 => cnt_zero
  | d + 1 => cnt_succ d (cnt_all d)

set_option maxHeartbeats 8000000 in
set_option maxRecDepth 100000 in
theorem RefMay_calls (x : V) (A4 : Option Addr) (c4 : Nat) (A5 : Option Addr) (c5 : Nat) (w : World) (h : Rows4 w x A4 c4 A5 c5) :
    Calls Tryz.prog 21 #[arg x A4 c4 A5 c5] w fun e w' => e = .returned (.bool (mayB x)) ∧ Below w.heap.size w w' := by
  have hu27 := Tryz.underlying27
  have H0 := Lib.hid h
  have CM := Lib.hid (show ∀ W, Below w.heap.size w W → Calls Tryz.prog 38 #[arg x A4 c4 A5 c5, .int .i64 8] W fun e w' => e = .returned (.int .i64 (cntD 8 x)) ∧ Below W.heap.size W w' from fun W hb => cnt_all 8 x A4 c4 A5 c5 W (h.below hb) (Nat.le_refl _))
  clear h
  rw [← may_cnt x]
  generalize cntD 8 x = K at *
  go_enter Tryz.func21, Tryz.ntmps21
  go_wp2_with (first | ((with_reducible refine gate_dst (N := 1) rfl ?_); (try (refine gate_guard (by rfl) ?_; dsimp only)); refine box_event ?hg (N := 1) ?hd (cs := #[.int .i64 x.f0, .int .i64 x.f1, .int .u64 x.f2, .string x.f3, .slice A4 x.f4.length c4, .slice A5 x.f5.length c5]) (t := 27) ?hr ?_; (case hd => rfl); (case hg => rfl); (case hr => first | (go_simp; done) | (go_simp; rfl)); intro gb hg wgb hbox hb; have BK := Lib.hid hbox; have HB := Lib.hid hb; have g0 := (blk_cell hbox 0).trans rfl; have g1 := (blk_cell hbox 1).trans rfl; have g2 := (blk_cell hbox 2).trans rfl; have g3 := (blk_cell hbox 3).trans rfl; have g4 := (blk_cell hbox 4).trans rfl; have g5 := (blk_cell hbox 5).trans rfl; clear hb hbox hg) | (go_at_call 38; (with_reducible refine (CM.out _ HB.out).mono ?_); rintro e w5 ⟨rfl, hb5⟩; have HB5 := Lib.hid (below_step HB.out hb5); clear hb5))
  all_goals (go_ret; exact ⟨rfl, HB5.out⟩)
end Go.Proofs.YtdghnfmhcnlppaaGreatDoor.Values
