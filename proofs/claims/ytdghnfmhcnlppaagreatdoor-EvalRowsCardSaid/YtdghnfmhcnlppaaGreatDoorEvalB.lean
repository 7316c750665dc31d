/- Package eval, walked: whether an Env may be. -/
import Derived.Test.YtdghnfmhcnlppaaGreatDoorEvalA
namespace Go.Proofs.YtdghnfmhcnlppaaGreatDoor.Eval
open Go.RowKit Go.Proofs.YtdghnfmhcnlppaaGreatDoor.Q Go.Proofs.YtdghnfmhcnlppaaGreatDoor.Real Go.Proofs.YtdghnfmhcnlppaaGreatDoor.RealPure Go.Proofs.YtdghnfmhcnlppaaGreatDoor.Values Go.Proofs.YtdghnfmhcnlppaaGreatDoor.Fns Go.Proofs.YtdghnfmhcnlppaaGreatDoorW.PrintWords Go.Proofs.YtdghnfmhcnlppaaGreatDoorW.PrintLast Go.Proofs.YtdghnfmhcnlppaaGreatDoorW.PrintMore
set_option linter.unusedSimpArgs false
set_option linter.unusedVariables false

/-- An Env as it is handed over; an Env in a box. -/
abbrev envV (e : En) (A4 : Option Addr) (c4 : Nat) (A5 : Option Addr) (c5 : Nat) (A6 : Option Addr) (c6 : Nat) : Value := .agg #[.int .i64 e.f0.f0, .int .i64 e.f0.f1, .int .u64 e.f0.f2, .string e.f0.f3, .slice A4 e.f0.f4.length c4, .slice A5 e.f0.f5.length c5, .slice A6 e.f1.length c6]
abbrev envO (e : En) (A4 : Option Addr) (c4 : Nat) (A5 : Option Addr) (c5 : Nat) (A6 : Option Addr) (c6 : Nat) : Obj := .cells #[.int .i64 e.f0.f0, .int .i64 e.f0.f1, .int .u64 e.f0.f2, .string e.f0.f3, .slice A4 e.f0.f4.length c4, .slice A5 e.f0.f5.length c5, .slice A6 e.f1.length c6] 30 (0, 0)
/-- An Env's rows lie. -/
structure RowsE (w : World) (e : En) (A4 : Option Addr) (c4 : Nat) (A5 : Option Addr) (c5 : Nat) (A6 : Option Addr) (c6 : Nat) : Prop where
  dot : Rows4 w e.f0 A4 c4 A5 c5
  k6 : Kd.C kX w A6 e.f1.length e.f1
  l6 : e.f1.length ≤ c6
theorem RowsE.below {w w1 : World} {e : En} {A4 : Option Addr} {c4 : Nat} {A5 : Option Addr} {c5 : Nat} {A6 : Option Addr} {c6 : Nat} (h : RowsE w e A4 c4 A5 c5 A6 c6) (hb : Below w.heap.size w w1) : RowsE w1 e A4 c4 A5 c5 A6 c6 :=
  ⟨h.dot.below hb, Kd.C_below h.k6 hb, h.l6⟩
abbrev zerosX : Obj := .cells #[.string ⟨#[]⟩, .int .i64 0, .int .i64 0, .int .u64 0, .string ⟨#[]⟩, .slice none 0 0, .slice none 0 0] 34
theorem sizeX : (Tryz.prog.info? 34).map (·.size) = some 7 := by kernel_rfl
theorem rd_X (xs : List Vr) (i : Nat) (hi : i < xs.length) : xs.drop i = rd_T34 xs (i : Int) :: xs.drop (i + 1) := by
  rw [List.drop_eq_getElem_cons hi]
  congr 1
  unfold rd_T34
  simp [hi]
theorem box7 {w : World} {g : Nat} {v0 v1 v2 v3 v4 v5 v6 : Value} {t : Nat} (h : w.heap[g]? = some (.cells #[v0, v1, v2, v3, v4, v5, v6] t (0, 0))) :
    w.cell? ⟨g, 0, none⟩ = some v0 ∧ w.cell? ⟨g, 1, none⟩ = some v1 ∧ w.cell? ⟨g, 2, none⟩ = some v2 ∧ w.cell? ⟨g, 3, none⟩ = some v3 ∧ w.cell? ⟨g, 4, none⟩ = some v4 ∧ w.cell? ⟨g, 5, none⟩ = some v5 ∧ w.cell? ⟨g, 6, none⟩ = some v6 :=
  ⟨(blk_cell h 0).trans rfl, (blk_cell h 1).trans rfl, (blk_cell h 2).trans rfl, (blk_cell h 3).trans rfl, (blk_cell h 4).trans rfl, (blk_cell h 5).trans rfl, (blk_cell h 6).trans rfl⟩

set_option maxHeartbeats 8000000 in
set_option maxRecDepth 100000 in
theorem may_calls (e : En) (A4 : Option Addr) (c4 : Nat) (A5 : Option Addr) (c5 : Nat) (A6 : Option Addr) (c6 : Nat) (g : Nat) (w0 w : World) (hb0 : Below w0.heap.size w0 w) (hE : w.heap[g]? = some (envO e A4 c4 A5 c5 A6 c6)) (h : RowsE w0 e A4 c4 A5 c5 A6 c6) :
    Calls Tryz.prog 23 #[.pointer (some ⟨g, 0, none⟩)] w fun en w' => en = .returned (.bool (envB e)) ∧ Below w.heap.size w w' := by
  have hu27 := Tryz.underlying27
  have huX := Tryz.underlying34
  have CM := Lib.hid (fun W (hb : Below w0.heap.size w0 W) => May_calls e.f0 A4 c4 A5 c5 W (h.dot.below hb))
  have HX := Lib.hid h.k6
  have HB0 := Lib.hid hb0
  have HE := Lib.hid hE
  obtain ⟨g0, g1, g2, g3, g4, g5, g6⟩ := box7 hE
  clear h hb0 hE
  obtain ⟨n, hn⟩ : ∃ n, e.f1.length = n := ⟨_, rfl⟩
  have HN := Lib.hid hn
  rw [hn] at g6
  unfold envB
  rw [hn]
  clear hn
  obtain ⟨R, hR⟩ : ∃ R, (mayB e.f0 && decide (n ≤ 32) && e.f1.all varB) = R := ⟨_, rfl⟩
  rw [hR]
  obtain ⟨mb, hmb⟩ : ∃ b, mayB e.f0 = b := ⟨_, rfl⟩
  rw [hmb] at CM hR
  clear hmb
  cases mb
  · rw [Bool.false_and, Bool.false_and] at hR
    subst hR
    go_enter Tryz.func23, Tryz.ntmps23
    go_wp2_with (go_at_call 35; (with_reducible refine (CM.out _ HB0.out).mono ?_); rintro en w5 ⟨rfl, hb5⟩; have HB5 := Lib.hid hb5; clear hb5)
    go_ret
    exact ⟨rfl, HB5.out⟩
  rw [Bool.true_and] at hR
  by_cases h32 : 32 < n
  · have t1 : decide (32 < n) = true := decide_eq_true h32
    have t2 : decide ((32 : Int) < (n : Int)) = true := decide_eq_true (by omega)
    have e1 : decide (n ≤ 32) = false := decide_eq_false (by omega)
    rw [e1, Bool.false_and] at hR
    subst hR
    clear e1
    have t3 : (32 < n) = True := eq_true h32
    clear h32
    go_enter Tryz.func23, Tryz.ntmps23
    go_wp2_with (go_at_call 35; (with_reducible refine (CM.out _ HB0.out).mono ?_); rintro en w5 ⟨rfl, hb5⟩; have HB5 := Lib.hid hb5; have s6 := pw_cell_below hb5 g6; clear hb5)
    go_ret
    exact ⟨rfl, HB5.out⟩
  have t1 : decide (32 < n) = false := decide_eq_false h32
  have t2 : decide ((32 : Int) < (n : Int)) = false := decide_eq_false (by omega)
  have e1 : decide (n ≤ 32) = true := decide_eq_true (by omega)
  rw [e1, Bool.true_and] at hR
  have HL := Lib.hid (by omega : n ≤ 32)
  have hR : (e.f1.drop 0).all varB = R := hR
  clear e1 h32
  go_enter Tryz.func23, Tryz.ntmps23
  go_wp2_with (go_at_call 35; (with_reducible refine (CM.out _ HB0.out).mono ?_); rintro en w5 ⟨rfl, hb5⟩; have HB5 := Aside0.mk hb5; have s6 := pw_cell_below hb5 g6; clear hb5)
  clear s6
  go_loopg [24] n (fun kq v24 wr => ∃ (i : Nat), v24 = .int .i64 (i : Int) ∧ Aside0 (i + kq = n) ∧ Aside0 ((e.f1.drop i).all varB = R) ∧ Aside0 (Below w.heap.size w wr))
  case atStart => exact ⟨0, rfl, ⟨by omega⟩, ⟨hR⟩, HB5⟩
  case round =>
    clear hR g0 g1 g2 g3 g4 g5 g6 HB5
    obtain ⟨i, rfl, HI, HM, HB⟩ := hrel
    have hi := HI.out
    cases gk with
    | zero =>
      have hlt : decide (i < n) = false := decide_eq_false (by omega)
      have hM := HM.out
      rw [List.drop_of_length_le (by have := HN.out; omega)] at hM
      have hRt : R = true := hM.symm
      subst hRt
      clear hi hM
      go_wp2
      go_ret
      exact ⟨rfl, HB.out⟩
    | succ k2 =>
      have hlt : decide (i < n) = true := decide_eq_true (by omega)
      have hltn := eq_true (show i < n by omega)
      obtain ⟨ad, E4, e4, E5, e5, rfl, y0, y1, y2, y3, y4, y5, y6, l4, k4, l5, k5⟩ := at_T34 HX.out (i : Int) (by omega) (by have := HN.out; omega)
      have ti : (i : Int).toNat = i := by omega
      rw [ti] at y0 y1 y2 y3 y4 y5 y6
      have wi' : IntKind.i64.wrap ((i : Int) + 1) = (i : Int) + 1 := by rw [i64_w]; exact Values.wrap_small _ (by have := HL.out; omega) (by have := HL.out; omega)
      have hstep := rd_X e.f1 i (by have := HN.out; omega)
      have hM := HM.out
      rw [hstep, List.all_cons] at hM
      have HB0r := Lib.hid (below_step HB0.out HB.out)
      replace y0 := pw_cell_below HB0r.out y0
      replace y1 := pw_cell_below HB0r.out y1
      replace y2 := pw_cell_below HB0r.out y2
      replace y3 := pw_cell_below HB0r.out y3
      replace y4 := pw_cell_below HB0r.out y4
      replace y5 := pw_cell_below HB0r.out y5
      replace y6 := pw_cell_below HB0r.out y6
      generalize rd_T34 e.f1 (i : Int) = y at *
      have CN := Lib.hid (Pipe.name_calls y.f0)
      have CY := Lib.hid (fun W (hb : Below w0.heap.size w0 W) => May_calls y.f1 E4 e4 E5 e5 W (⟨Kd.C_below k4 hb, l4, Kd.C_below k5 hb, l5⟩ : Rows4 W y.f1 E4 e4 E5 e5))
      have BN := Lib.hid (blk_new wr zerosX)
      have HBA := Lib.hid (below_alloc HB.out zerosX)
      have LE := Lib.hid (below_size HB.out)
      clear l4 k4 l5 k5 hstep HM hi
      unfold varB at hM
      cases hn : Pipe.nameB y.f0 with
      | false =>
        rw [hn] at CN hM
        rw [Bool.false_and, Bool.false_and] at hM
        subst hM
        clear hn
        go_wp2_with (first | ((with_reducible refine gate_store (t := 34) (p := 4) rfl ?_); refine row_event (by rfl) (by rfl) (by rfl) (by rfl) (by rfl) BN.out (by exact sizeX) (by rfl) (by first | rfl | simp [Value.oneCell']) ?_; intro w8 hz8 ho8 hb8; have HB8 := Lib.hid (hb8 LE.out HBA.out); obtain ⟨s0, s1, s2, s3, s4, s5, s6⟩ := box7 hz8; clear hb8 ho8 hz8) | (go_at_call 41; (with_reducible refine (CN.out _).mono ?_); rintro en w' ⟨rfl, ⟨nd, rfl⟩⟩))
        go_ret
        exact ⟨rfl, pw_below_drewN HB8.out _⟩
      | true =>
        rw [hn] at CN hM
        rw [Bool.true_and] at hM
        clear hn
        cases hm : mayB y.f1 with
        | false =>
          rw [hm] at CY hM
          rw [Bool.false_and] at hM
          subst hM
          clear hm
          go_wp2_with (first | ((with_reducible refine gate_store (t := 34) (p := 4) rfl ?_); refine row_event (by rfl) (by rfl) (by rfl) (by rfl) (by rfl) BN.out (by exact sizeX) (by rfl) (by first | rfl | simp [Value.oneCell']) ?_; intro w8 hz8 ho8 hb8; have HB8 := Lib.hid (hb8 LE.out HBA.out); obtain ⟨s0, s1, s2, s3, s4, s5, s6⟩ := box7 hz8; clear hb8 ho8 hz8) | (go_at_call 41; (with_reducible refine (CN.out _).mono ?_); rintro en w' ⟨rfl, ⟨nd, rfl⟩⟩; have HB9 := Lib.hid (pw_below_drewN HB8.out nd)) | (go_at_call 35; (with_reducible refine (CY.out _ (below_step HB0.out HB9.out)).mono ?_); rintro en w6 ⟨rfl, hb6⟩; have HB6 := Lib.hid (below_step HB9.out hb6); clear hb6))
          go_ret
          exact ⟨rfl, HB6.out⟩
        | true =>
          rw [hm] at CY hM
          rw [Bool.true_and] at hM
          clear hm
          have HM2 := Aside0.mk hM
          clear hM
          go_wp2_with (first | ((with_reducible refine gate_store (t := 34) (p := 4) rfl ?_); refine row_event (by rfl) (by rfl) (by rfl) (by rfl) (by rfl) BN.out (by exact sizeX) (by rfl) (by first | rfl | simp [Value.oneCell']) ?_; intro w8 hz8 ho8 hb8; have HB8 := Lib.hid (hb8 LE.out HBA.out); obtain ⟨s0, s1, s2, s3, s4, s5, s6⟩ := box7 hz8; clear hb8 ho8 hz8) | (go_at_call 41; (with_reducible refine (CN.out _).mono ?_); rintro en w' ⟨rfl, ⟨nd, rfl⟩⟩; have HB9 := Lib.hid (pw_below_drewN HB8.out nd)) | (go_at_call 35; (with_reducible refine (CY.out _ (below_step HB0.out HB9.out)).mono ?_); rintro en w6 ⟨rfl, hb6⟩; have HB6 := Aside0.mk (below_step HB9.out hb6); clear hb6))
          go_roundg k2
          case measure => omega
          case rel => exact ⟨i + 1, by simp, ⟨by have := HI.out; omega⟩, HM2, HB6⟩
end Go.Proofs.YtdghnfmhcnlppaaGreatDoor.Eval
