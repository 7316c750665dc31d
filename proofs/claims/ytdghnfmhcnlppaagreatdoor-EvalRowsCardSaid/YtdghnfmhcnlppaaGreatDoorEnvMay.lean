/- The document's EnvMay, walked: it answers what envB says. -/
import Derived.Test.YtdghnfmhcnlppaaGreatDoorEvalK
import Derived.Test.YtdghnfmhcnlppaaGreatDoorRefV
import Derived.Test.YtdghnfmhcnlppaaGreatDoorMayRef
namespace Go.Proofs.YtdghnfmhcnlppaaGreatDoor.Eval
open Go.RowKit Go.Proofs.YtdghnfmhcnlppaaGreatDoor.Q Go.Proofs.YtdghnfmhcnlppaaGreatDoor.Real Go.Proofs.YtdghnfmhcnlppaaGreatDoor.RealPure Go.Proofs.YtdghnfmhcnlppaaGreatDoor.Values Go.Proofs.YtdghnfmhcnlppaaGreatDoor.Fns Go.Proofs.YtdghnfmhcnlppaaGreatDoorW.PrintWords Go.Proofs.YtdghnfmhcnlppaaGreatDoorW.PrintLast Go.Proofs.YtdghnfmhcnlppaaGreatDoorW.PrintMore
set_option linter.unusedSimpArgs false
set_option linter.unusedVariables false

theorem refName_calls (s : ByteArray) (hs : s.size ≤ 140737488355328) (w : World) : Calls Tryz.prog 32 #[.string s] w fun e w' => e = .returned (.bool (Pipe.nameB s)) ∧ Below w.heap.size w w' :=
  (stoleref13_NameMay.calls _ s _ w (Pipe.rname_f s hs _ (Nat.le_refl _))).mono fun e w' h => ⟨h.1, h.2.below⟩

set_option maxHeartbeats 8000000 in
set_option maxRecDepth 100000 in
theorem envMay_calls (e : En) (A4 : Option Addr) (c4 : Nat) (A5 : Option Addr) (c5 : Nat) (A6 : Option Addr) (c6 : Nat) (w : World) (h : RowsE w e A4 c4 A5 c5 A6 c6) (hs : ∀ v ∈ e.f1, v.f0.size ≤ 140737488355328) :
    Calls Tryz.prog 16 #[envV e A4 c4 A5 c5 A6 c6] w fun en w' => en = .returned (.bool (envB e)) ∧ Below w.heap.size w w' := by
  have hu27 := Tryz.underlying27
  have huX := Tryz.underlying34
  have huE := Tryz.underlying30
  have CM := Lib.hid (fun W (hb : Below w.heap.size w W) => RefMay_calls e.f0 A4 c4 A5 c5 W (h.dot.below hb))
  have HX := Lib.hid h.k6
  have HS := Lib.hid hs
  clear h hs
  show Calls Tryz.prog 16 #[.agg #[.int .i64 e.f0.f0, .int .i64 e.f0.f1, .int .u64 e.f0.f2, .string e.f0.f3, .slice A4 e.f0.f4.length c4, .slice A5 e.f0.f5.length c5, .slice A6 e.f1.length c6]] w _
  obtain ⟨n, hn⟩ : ∃ n, e.f1.length = n := ⟨_, rfl⟩
  have HN := Lib.hid hn
  unfold envB
  rw [hn]
  clear hn
  obtain ⟨R, hR⟩ : ∃ R, (mayB e.f0 && decide (n ≤ 32) && e.f1.all varB) = R := ⟨_, rfl⟩
  rw [hR]
  obtain ⟨mb, hmb⟩ : ∃ b, mayB e.f0 = b := ⟨_, rfl⟩
  rw [hmb] at CM hR
  clear hmb
  cases mb
  · rw [Bool.false_and, Bool.false_and] at hR
    subst hR
    go_enter Tryz.func16, Tryz.ntmps16
    go_upto_region 1 with (fail)
    have HE := Lib.hid (blk_new w (.cells #[.int .i64 e.f0.f0, .int .i64 e.f0.f1, .int .u64 e.f0.f2, .string e.f0.f3, .slice A4 e.f0.f4.length c4, .slice A5 e.f0.f5.length c5, .slice A6 n c6] 30))
    have HB0 := Lib.hid (below_alloc (Below.refl w.heap.size w) (.cells #[.int .i64 e.f0.f0, .int .i64 e.f0.f1, .int .u64 e.f0.f2, .string e.f0.f3, .slice A4 e.f0.f4.length c4, .slice A5 e.f0.f5.length c5, .slice A6 n c6] 30))
    generalize w.alloc (.cells #[.int .i64 e.f0.f0, .int .i64 e.f0.f1, .int .u64 e.f0.f2, .string e.f0.f3, .slice A4 e.f0.f4.length c4, .slice A5 e.f0.f5.length c5, .slice A6 n c6] 30) = w1 at *
    obtain ⟨g0, g1, g2, g3, g4, g5, g6⟩ := box7 HE.out
    go_wp2_with (go_at_call 21; (with_reducible refine (CM.out _ HB0.out).mono ?_); rintro en w5 ⟨rfl, hb5⟩; have HB5 := Lib.hid (below_step HB0.out hb5); have HE5 := Lib.hid (blk_below HE.out hb5); have s6 := pw_cell_below hb5 g6; clear hb5)
    go_ret
    exact ⟨rfl, HB5.out⟩
  rw [Bool.true_and] at hR
  by_cases h32 : 32 < n
  · have t1 : decide (32 < n) = true := decide_eq_true h32
    have t2 : decide ((32 : Int) < (n : Int)) = true := decide_eq_true (by omega)
    have e1 : decide (n ≤ 32) = false := decide_eq_false (by omega)
    rw [e1, Bool.false_and] at hR
    subst hR
    clear e1
    have t3 : (32 < n) = True := eq_true h32
    clear h32
    go_enter Tryz.func16, Tryz.ntmps16
    go_upto_region 1 with (fail)
    have HE := Lib.hid (blk_new w (.cells #[.int .i64 e.f0.f0, .int .i64 e.f0.f1, .int .u64 e.f0.f2, .string e.f0.f3, .slice A4 e.f0.f4.length c4, .slice A5 e.f0.f5.length c5, .slice A6 n c6] 30))
    have HB0 := Lib.hid (below_alloc (Below.refl w.heap.size w) (.cells #[.int .i64 e.f0.f0, .int .i64 e.f0.f1, .int .u64 e.f0.f2, .string e.f0.f3, .slice A4 e.f0.f4.length c4, .slice A5 e.f0.f5.length c5, .slice A6 n c6] 30))
    generalize w.alloc (.cells #[.int .i64 e.f0.f0, .int .i64 e.f0.f1, .int .u64 e.f0.f2, .string e.f0.f3, .slice A4 e.f0.f4.length c4, .slice A5 e.f0.f5.length c5, .slice A6 n c6] 30) = w1 at *
    obtain ⟨g0, g1, g2, g3, g4, g5, g6⟩ := box7 HE.out
    go_wp2_with (go_at_call 21; (with_reducible refine (CM.out _ HB0.out).mono ?_); rintro en w5 ⟨rfl, hb5⟩; have HB5 := Lib.hid (below_step HB0.out hb5); have HE5 := Lib.hid (blk_below HE.out hb5); have s6 := pw_cell_below hb5 g6; clear hb5)
    go_ret
    exact ⟨rfl, HB5.out⟩
  have t1 : decide (32 < n) = false := decide_eq_false h32
  have t2 : decide ((32 : Int) < (n : Int)) = false := decide_eq_false (by omega)
  have e1 : decide (n ≤ 32) = true := decide_eq_true (by omega)
  rw [e1, Bool.true_and] at hR
  have HL := Lib.hid (by omega : n ≤ 32)
  have hR : (e.f1.drop 0).all varB = R := hR
  clear e1 h32
  go_enter Tryz.func16, Tryz.ntmps16
  go_upto_region 1 with (fail)
  have HE := Lib.hid (blk_new w (.cells #[.int .i64 e.f0.f0, .int .i64 e.f0.f1, .int .u64 e.f0.f2, .string e.f0.f3, .slice A4 e.f0.f4.length c4, .slice A5 e.f0.f5.length c5, .slice A6 n c6] 30))
  have HB0 := Lib.hid (below_alloc (Below.refl w.heap.size w) (.cells #[.int .i64 e.f0.f0, .int .i64 e.f0.f1, .int .u64 e.f0.f2, .string e.f0.f3, .slice A4 e.f0.f4.length c4, .slice A5 e.f0.f5.length c5, .slice A6 n c6] 30))
  generalize w.alloc (.cells #[.int .i64 e.f0.f0, .int .i64 e.f0.f1, .int .u64 e.f0.f2, .string e.f0.f3, .slice A4 e.f0.f4.length c4, .slice A5 e.f0.f5.length c5, .slice A6 n c6] 30) = w1 at *
  obtain ⟨g0, g1, g2, g3, g4, g5, g6⟩ := box7 HE.out
  go_wp2_with (go_at_call 21; (with_reducible refine (CM.out _ HB0.out).mono ?_); rintro en w5 ⟨rfl, hb5⟩; have HB5 := Lib.hid (below_step HB0.out hb5); have HE5 := Lib.hid (blk_below HE.out hb5); have s6 := pw_cell_below hb5 g6; clear hb5)
  clear s6 HE HB0 g0 g1 g2 g3 g4 g5 g6
  go_loopg [3] n (fun kq v3 wr => ∃ (i : Nat), v3 = .int .i64 (i : Int) ∧ Aside0 (i + kq = n) ∧ Aside0 ((e.f1.drop i).all varB = R) ∧ Aside0 (Below w.heap.size w wr) ∧ Aside0 (wr.heap[w.heap.size]? = some (.cells #[.int .i64 e.f0.f0, .int .i64 e.f0.f1, .int .u64 e.f0.f2, .string e.f0.f3, .slice A4 e.f0.f4.length c4, .slice A5 e.f0.f5.length c5, .slice A6 n c6] 30 (0, 0))))
  case atStart => exact ⟨0, rfl, ⟨by omega⟩, ⟨hR⟩, ⟨HB5.out⟩, ⟨HE5.out⟩⟩
  case round =>
    clear hR HB5 HE5 CM
    obtain ⟨i, rfl, HI, HM, HB, HE0⟩ := hrel
    have hi := HI.out
    obtain ⟨g0, g1, g2, g3, g4, g5, g6⟩ := box7 HE0.out
    cases gk with
    | zero =>
      have hlt : decide (i < n) = false := decide_eq_false (by omega)
      have hM := HM.out
      rw [List.drop_of_length_le (by have := HN.out; omega)] at hM
      have hRt : R = true := hM.symm
      subst hRt
      clear hi hM
      go_wp2
      go_ret
      exact ⟨rfl, HB.out⟩
    | succ k2 =>
      have hlt : decide (i < n) = true := decide_eq_true (by omega)
      have hltn := eq_true (show i < n by omega)
      obtain ⟨ad, E4, e4, E5, e5, rfl, y0, y1, y2, y3, y4, y5, y6, l4, k4, l5, k5⟩ := at_T34 HX.out (i : Int) (by omega) (by have := HN.out; omega)
      have ti : (i : Int).toNat = i := by omega
      rw [ti] at y0 y1 y2 y3 y4 y5 y6
      have wi' : IntKind.i64.wrap ((i : Int) + 1) = (i : Int) + 1 := by rw [i64_w]; exact Values.wrap_small _ (by have := HL.out; omega) (by have := HL.out; omega)
      have hstep := rd_X e.f1 i (by have := HN.out; omega)
      have hM := HM.out
      rw [hstep, List.all_cons] at hM
      have hmem : rd_T34 e.f1 (i : Int) ∈ e.f1 := List.mem_of_mem_drop (i := i) (by rw [hstep]; exact List.mem_cons_self)
      have hsz := HS.out _ hmem
      clear hmem
      replace y0 := pw_cell_below HB.out y0
      replace y1 := pw_cell_below HB.out y1
      replace y2 := pw_cell_below HB.out y2
      replace y3 := pw_cell_below HB.out y3
      replace y4 := pw_cell_below HB.out y4
      replace y5 := pw_cell_below HB.out y5
      replace y6 := pw_cell_below HB.out y6
      generalize rd_T34 e.f1 (i : Int) = y at *
      have CN := Lib.hid (fun W => refName_calls y.f0 hsz W)
      have CY := Lib.hid (fun W (hb : Below w.heap.size w W) => RefMay_calls y.f1 E4 e4 E5 e5 W (⟨Kd.C_below k4 hb, l4, Kd.C_below k5 hb, l5⟩ : Rows4 W y.f1 E4 e4 E5 e5))
      clear l4 k4 l5 k5 hstep HM hi hsz
      unfold varB at hM
      cases hn : Pipe.nameB y.f0 with
      | false =>
        rw [hn] at CN hM
        rw [Bool.false_and, Bool.false_and] at hM
        subst hM
        clear hn
        go_wp2_with (first | (go_at_call 32; (with_reducible refine (CN.out _).mono ?_); rintro en w8 ⟨rfl, hb8⟩; have HB9 := Lib.hid (below_step HB.out hb8); have HE9 := Lib.hid (blk_below HE0.out hb8); replace g6 := pw_cell_below hb8 g6; replace y0 := pw_cell_below hb8 y0; replace y1 := pw_cell_below hb8 y1; replace y2 := pw_cell_below hb8 y2; replace y3 := pw_cell_below hb8 y3; replace y4 := pw_cell_below hb8 y4; replace y5 := pw_cell_below hb8 y5; replace y6 := pw_cell_below hb8 y6; clear hb8))
        go_ret
        exact ⟨rfl, HB9.out⟩
      | true =>
        rw [hn] at CN hM
        rw [Bool.true_and] at hM
        clear hn
        cases hm : mayB y.f1 with
        | false =>
          rw [hm] at CY hM
          rw [Bool.false_and] at hM
          subst hM
          clear hm
          go_wp2_with (first | (go_at_call 32; (with_reducible refine (CN.out _).mono ?_); rintro en w8 ⟨rfl, hb8⟩; have HB9 := Lib.hid (below_step HB.out hb8); have HE9 := Lib.hid (blk_below HE0.out hb8); replace g6 := pw_cell_below hb8 g6; replace y0 := pw_cell_below hb8 y0; replace y1 := pw_cell_below hb8 y1; replace y2 := pw_cell_below hb8 y2; replace y3 := pw_cell_below hb8 y3; replace y4 := pw_cell_below hb8 y4; replace y5 := pw_cell_below hb8 y5; replace y6 := pw_cell_below hb8 y6; clear hb8) | (go_at_call 21; (with_reducible refine (CY.out _ HB9.out).mono ?_); rintro en w6 ⟨rfl, hb6⟩; have HB6 := Aside0.mk (below_step HB9.out hb6); have HE6 := Aside0.mk (blk_below HE9.out hb6); clear hb6))
          go_ret
          exact ⟨rfl, HB6.out⟩
        | true =>
          rw [hm] at CY hM
          rw [Bool.true_and] at hM
          clear hm
          have HM2 := Aside0.mk hM
          clear hM
          go_wp2_with (first | (go_at_call 32; (with_reducible refine (CN.out _).mono ?_); rintro en w8 ⟨rfl, hb8⟩; have HB9 := Lib.hid (below_step HB.out hb8); have HE9 := Lib.hid (blk_below HE0.out hb8); replace g6 := pw_cell_below hb8 g6; replace y0 := pw_cell_below hb8 y0; replace y1 := pw_cell_below hb8 y1; replace y2 := pw_cell_below hb8 y2; replace y3 := pw_cell_below hb8 y3; replace y4 := pw_cell_below hb8 y4; replace y5 := pw_cell_below hb8 y5; replace y6 := pw_cell_below hb8 y6; clear hb8) | (go_at_call 21; (with_reducible refine (CY.out _ HB9.out).mono ?_); rintro en w6 ⟨rfl, hb6⟩; have HB6 := Aside0.mk (below_step HB9.out hb6); have HE6 := Aside0.mk (blk_below HE9.out hb6); clear hb6))
          go_roundg k2
          case measure => omega
          case rel => exact ⟨i + 1, by simp, ⟨by have := HI.out; omega⟩, HM2, HB6, HE6⟩
end Go.Proofs.YtdghnfmhcnlppaaGreatDoor.Eval
