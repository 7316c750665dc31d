/- Package eval, walked: an argument's value. -/
import Derived.Test.YtdghnfmhcnlppaaGreatDoorEvalB
import Derived.RegionDies
namespace Go.Proofs.YtdghnfmhcnlppaaGreatDoor.Eval
open Go.RowKit Go.Proofs.YtdghnfmhcnlppaaGreatDoor.Q Go.Proofs.YtdghnfmhcnlppaaGreatDoor.Real Go.Proofs.YtdghnfmhcnlppaaGreatDoor.RealPure Go.Proofs.YtdghnfmhcnlppaaGreatDoor.Values Go.Proofs.YtdghnfmhcnlppaaGreatDoor.Fns Go.Proofs.YtdghnfmhcnlppaaGreatDoorW.PrintWords Go.Proofs.YtdghnfmhcnlppaaGreatDoorW.PrintLast Go.Proofs.YtdghnfmhcnlppaaGreatDoorW.PrintMore
set_option linter.unusedSimpArgs false
set_option linter.unusedVariables false

theorem ends_get {w0 w w' : World} {x : V} {e : Ending} (h : Ends w0 w (x, 0) e w') : ∃ B4 d4 B5 d5, e = .returned (arg x B4 d4 B5 d5) ∧ Rows4 w0 x B4 d4 B5 d5 ∧ Below w.heap.size w w' := by
  obtain ⟨h1, h2⟩ := h
  obtain ⟨B4, d4, B5, d5, h3, h4⟩ := (if_pos rfl : _ = _) ▸ h1
  exact ⟨B4, d4, B5, d5, h3, h4, h2⟩
theorem ends_err {w0 w w' : World} {x : V} {n : Int} {e : Ending} (hn : n ≠ 0) (h : Ends w0 w (x, n) e w') : e = .panicked (chain n) ∧ Below w.heap.size w w' := by
  obtain ⟨h1, h2⟩ := h
  rw [if_neg hn] at h1
  exact ⟨h1, h2⟩
theorem may_var {e : En} (h : envB e = true) (i : Nat) (hi : i < e.f1.length) : mayB (rd_T34 e.f1 (i : Int)).f1 = true := by
  unfold envB at h
  simp only [Bool.and_eq_true, List.all_eq_true] at h
  have hm : rd_T34 e.f1 (i : Int) ∈ e.f1 := by
    have e1 := rd_X e.f1 i hi
    exact List.mem_of_mem_drop (i := i) (by rw [e1]; exact List.mem_cons_self)
  have h2 := h.2 _ hm
  unfold varB at h2
  simp only [Bool.and_eq_true] at h2
  exact h2.2
theorem may_dot {e : En} (h : envB e = true) : mayB e.f0 = true := by
  unfold envB at h
  simp only [Bool.and_eq_true] at h
  exact h.1.1
theorem env_few {e : En} (h : envB e = true) : e.f1.length ≤ 32 := by
  unfold envB at h
  simp only [Bool.and_eq_true, decide_eq_true_eq] at h
  exact h.1.2
theorem varR_step (vs : List Vr) (nm : ByteArray) (ps : List ByteArray) (k : Nat) : varR vs nm ps (k + 1) = if ((rd_T34 vs (k : Int)).f0.toList == nm.toList) = true then atR (rd_T34 vs (k : Int)).f1 ps else varR vs nm ps k := by
  unfold varR
  rw [lastV]
  split <;> rename_i h1 <;> split at h1
  · rename_i h2
    rw [if_pos h2]
    injection h1 with h1
    rw [h1]
  · rename_i h2
    rw [if_neg h2, h1]
  · cases h1
  · rename_i h2
    rw [if_neg h2, h1]

set_option maxHeartbeats 16000000 in
set_option maxRecDepth 100000 in
theorem arg_calls (a : Ag) (pa : Addr) (F2 : Option Addr) (f2 : Nat) (e : En) (A4 : Option Addr) (c4 : Nat) (A5 : Option Addr) (c5 : Nat) (A6 : Option Addr) (c6 : Nat) (g : Nat) (w0 w : World) (hb0 : Below w0.heap.size w0 w) (hE : w.heap[g]? = some (envO e A4 c4 A5 c5 A6 c6)) (h : RowsE w0 e A4 c4 A5 c5 A6 c6)
    (hA : Pipe.AtA w0 pa a F2 f2) (hk2 : Kd.C Kd.string w0 F2 a.f2.length a.f2) (hl2 : a.f2.length < 1099511627776) (hok : envB e = true) :
    Calls Tryz.prog 74 #[.pointer (some pa), .pointer (some ⟨g, 0, none⟩)] w (Ends w0 w (argR e a)) := by
  have hu27 := Tryz.underlying27
  have HB0 := Lib.hid hb0
  have HE := Lib.hid hE
  have HX := Lib.hid h.k6
  have HK := Lib.hid (may_var hok)
  have H32 := Lib.hid (env_few hok)
  have HG := Lib.hid (okG_of_may 8 _ 1024 (may_dot hok))
  have CD := Lib.hid (fun W (hb : Below w0.heap.size w0 W) => at_calls e.f0 A4 c4 A5 c5 F2 f2 a.f2 8 w0 W hb h.dot hk2 hl2 HG.out)
  have CV := Lib.hid (fun (x : V) (E4 : Option Addr) (e4 : Nat) (E5 : Option Addr) (e5 : Nat) (hr : Rows4 w0 x E4 e4 E5 e5) (hm : mayB x = true) W (hb : Below w0.heap.size w0 W) => at_calls x E4 e4 E5 e5 F2 f2 a.f2 8 w0 W hb hr hk2 hl2 (okG_of_may 8 _ 1024 hm))
  have A2 := Lib.hid (blk_new w zeros)
  have A3 := Lib.hid (below_alloc (Below.refl _ w) zeros)
  have D2 := Lib.hid (blk_drew A2.out)
  have D3 := Lib.hid (below_drew A3.out)
  obtain ⟨x0, x1, x2, x3, x4⟩ := hA.below (below_step hb0 A3.out)
  obtain ⟨g0, g1, g2, g3, g4, g5, g6⟩ := box7 (blk_alloc hE zeros)
  have XA := Lib.hid hA
  clear h hk2 hl2 hok hb0 hE hA
  by_cases k0 : a.f0 = 0
  · have b0 : (a.f0 == 0) = true := beq_iff_eq.2 k0
    have hR : argR e a = atR e.f0 a.f2 := by unfold argR; rw [b0]; rfl
    rw [hR]
    clear k0 hR
    obtain ⟨⟨R, n⟩, hR⟩ : ∃ R, atR e.f0 a.f2 = R := ⟨_, rfl⟩
    rw [hR] at CD ⊢
    clear hR CV HX
    go_enter Tryz.func74, Tryz.ntmps74
    go_upto_region 1 with (fail)
    generalize hw4 : w.alloc zeros = w4 at *
    clear hw4
    go_wp2
    by_cases hn : n = 0
    · subst hn
      go_region_with (first | (go_at_call 93; (with_reducible refine (CD.out _ (below_step HB0.out D3.out)).mono ?_); rintro en w6 he; obtain ⟨B4, d4, B5, d5, rfl, hr6, hb6⟩ := ends_get he; clear he; have BZ6 := Lib.hid (blk_below D2.out hb6); have HB6 := Lib.hid (below_step D3.out hb6); have RR := Lib.hid hr6; have y0 := (blk_cell BZ6.out 0).trans rfl; have y1 := (blk_cell BZ6.out 1).trans rfl; have y2 := (blk_cell BZ6.out 2).trans rfl; have y3 := (blk_cell BZ6.out 3).trans rfl; have y4 := (blk_cell BZ6.out 4).trans rfl; have y5 := (blk_cell BZ6.out 5).trans rfl; have z0 := blk_frozen BZ6.out 0; have z1 := blk_frozen BZ6.out 1; have z2 := blk_frozen BZ6.out 2; have z3 := blk_frozen BZ6.out 3; have z4 := blk_frozen BZ6.out 4; have z5 := blk_frozen BZ6.out 5; clear hb6 hr6))
      all_goals
        (try go_wp2)
        refine bodyPost_ret (results_cell_row rfl _ _ w.heap.size 27 _ (0, 0) _ rfl (six_put BZ6.out _ _ _ _ _ _) hu27 rfl (by exact size27)) rfl ?_
        exact ends_ok RR.out (six_below HB6.out (Nat.le_refl _) _ _ _ _ _ _)
    · have HN := Lib.hid hn
      clear hn
      go_region_dies
      all_goals (go_at_call 93; (with_reducible refine (CD.out _ (below_step HB0.out D3.out)).mono ?_); rintro en w6 he; obtain ⟨rfl, hb6⟩ := ends_err HN.out he; exact ⟨rfl, ends_no HN.out (below_step D3.out hb6)⟩)
  have b0 : (a.f0 == 0) = false := beq_eq_false_iff_ne.2 k0
  by_cases k1 : a.f0 = 1
  · have b1 : (a.f0 == 1) = true := beq_iff_eq.2 k1
    have hR : argR e a = varR e.f1 a.f1 a.f2 e.f1.length := by unfold argR; rw [b0, b1]; rfl
    rw [hR]
    clear k0 k1 hR CD
    obtain ⟨R, hR⟩ : ∃ R, varR e.f1 a.f1 a.f2 e.f1.length = R := ⟨_, rfl⟩
    rw [hR]
    obtain ⟨m, hm⟩ : ∃ m, e.f1.length = m := ⟨_, rfl⟩
    have HM := Lib.hid hm
    rw [hm] at g6 hR H32
    clear hm
    have wm : IntKind.i64.wrap ((m : Int) - 1) = (m : Int) - 1 := by rw [i64_w]; exact Values.wrap_small _ (by omega) (by have := H32.out; omega)
    go_enter Tryz.func74, Tryz.ntmps74
    go_upto_region 1 with (fail)
    generalize hw4 : w.alloc zeros = w4 at *
    clear hw4
    have A2' := Aside0.mk A2.out
    have A3' := Aside0.mk A3.out
    go_wp2
    go_loopg [5] m (fun kq v5 wr => ∃ (j : Int), v5 = .int .i64 j ∧ Aside0 (j + 1 = kq ∧ kq ≤ m) ∧ Aside0 (varR e.f1 a.f1 a.f2 kq = R) ∧ Aside0 (wr.heap[w.heap.size]? = some zeros) ∧ Aside0 (Below w.heap.size w wr))
    case atStart => exact ⟨(m : Int) - 1, rfl, ⟨by omega, Nat.le_refl _⟩, ⟨hR⟩, A2', A3'⟩
    case round =>
      clear hR x0 x1 x2 x3 x4 g0 g1 g2 g3 g4 g5 g6 A2 A3 D2 D3 A2' A3'
      obtain ⟨j, rfl, HI, HV, BZ, HB⟩ := hrel
      obtain ⟨hj, hkm⟩ := HI.out
      obtain ⟨x0, x1, x2, x3, x4⟩ := XA.out.below (below_step HB0.out HB.out)
      have BE := Lib.hid (blk_below HE.out HB.out)
      obtain ⟨g0, g1, g2, g3, g4, g5, g6⟩ := box7 BE.out
      rw [HM.out] at g6
      cases gk with
      | zero =>
        obtain rfl : j = -1 := by omega
        have hlt : decide ((0 : Int) ≤ -1) = false := rfl
        have hV := HV.out
        have hV' : R = (z27, 1901) := hV.symm
        subst hV'
        clear hV hj hkm
        go_wp2
        exact ⟨rfl, ends_no (by decide) HB.out⟩
      | succ k2 =>
        obtain rfl : j = (k2 : Int) := by omega
        have hlt : decide ((0 : Int) ≤ (k2 : Int)) = true := decide_eq_true (by omega)
        have q1 : ((k2 : Int) < (m : Int)) = True := eq_true (by omega)
        have q2 : (k2 < m) = True := eq_true (by omega)
        have q0 : ((0 : Int) ≤ (k2 : Int)) = True := eq_true (by omega)
        obtain ⟨ad, E4, e4, E5, e5, rfl, y0, y1, y2, y3, y4, y5, y6, l4, k4, l5, k5⟩ := at_T34 HX.out (k2 : Int) (by omega) (by have := HM.out; omega)
        have ti : (k2 : Int).toNat = k2 := by omega
        rw [ti] at y0 y1 y2 y3 y4 y5 y6
        have wi' : IntKind.i64.wrap ((k2 : Int) - 1) = (k2 : Int) - 1 := by rw [i64_w]; exact Values.wrap_small _ (by omega) (by have := H32.out; omega)
        have HB0r := Lib.hid (below_step HB0.out HB.out)
        replace y0 := pw_cell_below HB0r.out y0
        replace y1 := pw_cell_below HB0r.out y1
        replace y2 := pw_cell_below HB0r.out y2
        replace y3 := pw_cell_below HB0r.out y3
        replace y4 := pw_cell_below HB0r.out y4
        replace y5 := pw_cell_below HB0r.out y5
        replace y6 := pw_cell_below HB0r.out y6
        have hV := HV.out
        rw [varR_step] at hV
        have hmy := HK.out k2 (by have := HM.out; omega)
        generalize rd_T34 e.f1 (k2 : Int) = y at *
        have CT := Lib.hid (CV.out y.f1 E4 e4 E5 e5 ⟨k4, l4, k5, l5⟩ hmy)
        clear l4 k4 l5 k5 hmy HV hj
        obtain ⟨q, hq⟩ : ∃ q, (y.f0.toList == a.f1.toList) = q := ⟨_, rfl⟩
        rw [hq] at hV
        have BD := Lib.hid (blk_drew BZ.out)
        have HBD := Lib.hid (below_drew HB.out)
        have BD2 := Lib.hid (blk_drew BD.out)
        have HBD2 := Lib.hid (below_drew HBD.out)
        cases q
        · have HV2 := Aside0.mk (show varR e.f1 a.f1 a.f2 k2 = R from hV)
          clear hV
          go_wp2
          go_region
          go_wp2
          go_roundg k2
          case measure => omega
          case rel => exact ⟨(k2 : Int) - 1, rfl, ⟨by omega, by omega⟩, HV2, by first | exact ⟨BD.out⟩ | exact BZ, by first | exact ⟨HBD.out⟩ | exact HB⟩
        · have hV2 : atR y.f1 a.f2 = R := hV
          rw [hV2] at CT
          clear hV hV2
          obtain ⟨R, n⟩ := R
          go_wp2
          go_region
          go_wp2
          by_cases hn : n = 0
          · subst hn
            go_region_with (first | (go_at_call 93; (with_reducible refine (CT.out _ (below_step HB0.out HBD2.out)).mono ?_); rintro en w6 he; obtain ⟨B4, d4, B5, d5, rfl, hr6, hb6⟩ := ends_get he; clear he; have BZ6 := Lib.hid (blk_below BD2.out hb6); have HB6 := Lib.hid (below_step HBD2.out hb6); have RR := Lib.hid hr6; have y0 := (blk_cell BZ6.out 0).trans rfl; have y1 := (blk_cell BZ6.out 1).trans rfl; have y2 := (blk_cell BZ6.out 2).trans rfl; have y3 := (blk_cell BZ6.out 3).trans rfl; have y4 := (blk_cell BZ6.out 4).trans rfl; have y5 := (blk_cell BZ6.out 5).trans rfl; have z0 := blk_frozen BZ6.out 0; have z1 := blk_frozen BZ6.out 1; have z2 := blk_frozen BZ6.out 2; have z3 := blk_frozen BZ6.out 3; have z4 := blk_frozen BZ6.out 4; have z5 := blk_frozen BZ6.out 5; clear hb6 hr6))
            all_goals
              (try go_wp2)
              refine bodyPost_ret (results_cell_row rfl _ _ w.heap.size 27 _ (0, 0) _ rfl (six_put BZ6.out _ _ _ _ _ _) hu27 rfl (by exact size27)) rfl ?_
              exact ends_ok RR.out (six_below HB6.out (Nat.le_refl _) _ _ _ _ _ _)
          · have HN := Lib.hid hn
            clear hn
            go_region_dies
            all_goals (go_at_call 93; (with_reducible refine (CT.out _ (below_step HB0.out HBD2.out)).mono ?_); rintro en w6 he; obtain ⟨rfl, hb6⟩ := ends_err HN.out he; exact ⟨rfl, ends_no HN.out (below_step HBD2.out hb6)⟩)
  have b1 : (a.f0 == 1) = false := beq_eq_false_iff_ne.2 k1
  clear CD CV HX HG HK H32
  by_cases k2 : a.f0 = 2
  · have b2 : (a.f0 == 2) = true := beq_iff_eq.2 k2
    have hR : argR e a = (numV a.f3, 0) := by unfold argR; rw [b0, b1, b2]; rfl
    rw [hR]
    clear k0 k1 k2 hR
    go_enter Tryz.func74, Tryz.ntmps74
    go_upto_region 1 with (fail)
    generalize hw4 : w.alloc zeros = w4 at *
    clear hw4
    go_wp2_with (first | ((with_reducible refine gate_store (t := 27) (p := 4) rfl ?_); refine row_event (by rfl) (by rfl) (by rfl) (by rfl) (by rfl) A2.out (by exact size27) (by rfl) (by first | rfl | simp [Value.oneCell']) ?_; intro w8 hz8 ho8 hb8; have Z8 := Lib.hid hz8; have HB8 := Lib.hid (hb8 (Nat.le_refl _) A3.out); clear hb8 ho8 hz8))
    refine bodyPost_ret (results_cell_row rfl _ _ w.heap.size 27 _ (0, 0) _ rfl Z8.out hu27 rfl (by exact size27)) rfl ?_
    exact ends_ok (rows_nil _ (numV a.f3) rfl rfl) HB8.out
  have b2 : (a.f0 == 2) = false := beq_eq_false_iff_ne.2 k2
  by_cases k3 : a.f0 = 3
  · have b3 : (a.f0 == 3) = true := beq_iff_eq.2 k3
    have hR : argR e a = (textV a.f4, 0) := by unfold argR; rw [b0, b1, b2, b3]; rfl
    rw [hR]
    clear k0 k1 k2 k3 hR
    go_enter Tryz.func74, Tryz.ntmps74
    go_upto_region 1 with (fail)
    generalize hw4 : w.alloc zeros = w4 at *
    clear hw4
    go_wp2_with (first | ((with_reducible refine gate_store (t := 27) (p := 4) rfl ?_); refine row_event (by rfl) (by rfl) (by rfl) (by rfl) (by rfl) A2.out (by exact size27) (by rfl) (by first | rfl | simp [Value.oneCell']) ?_; intro w8 hz8 ho8 hb8; have Z8 := Lib.hid hz8; have HB8 := Lib.hid (hb8 (Nat.le_refl _) A3.out); clear hb8 ho8 hz8))
    refine bodyPost_ret (results_cell_row rfl _ _ w.heap.size 27 _ (0, 0) _ rfl Z8.out hu27 rfl (by exact size27)) rfl ?_
    exact ends_ok (rows_nil _ (textV a.f4) rfl rfl) HB8.out
  have b3 : (a.f0 == 3) = false := beq_eq_false_iff_ne.2 k3
  by_cases k4 : a.f0 = 4
  · have b4 : (a.f0 == 4) = true := beq_iff_eq.2 k4
    have hR : argR e a = (boolV (a.f3 == 1), 0) := by unfold argR; rw [b0, b1, b2, b3, b4]; rfl
    rw [hR]
    clear k0 k1 k2 k3 k4 hR
    obtain ⟨bb, hbb⟩ : ∃ bb, (a.f3 == 1) = bb := ⟨_, rfl⟩
    rw [hbb]
    have CB := Lib.hid (Bool_calls bb)
    go_enter Tryz.func74, Tryz.ntmps74
    go_upto_region 1 with (fail)
    generalize hw4 : w.alloc zeros = w4 at *
    clear hw4
    go_wp2_with (first | (go_at_call 63; (with_reducible refine (CB.out _).mono ?_); rintro en w6 ⟨rfl, hb6⟩; have BZ6 := Lib.hid (blk_below A2.out hb6); have HB6 := Lib.hid (below_step A3.out hb6); clear hb6) | ((with_reducible refine gate_store (t := 27) (p := 4) rfl ?_); refine row_event (by rfl) (by rfl) (by rfl) (by rfl) (by rfl) BZ6.out (by exact size27) (by rfl) (by first | rfl | simp [Value.oneCell']) ?_; intro w8 hz8 ho8 hb8; have Z8 := Lib.hid hz8; have HB8 := Lib.hid (hb8 (Nat.le_refl _) HB6.out); clear hb8 ho8 hz8))
    refine bodyPost_ret (results_cell_row rfl _ _ w.heap.size 27 _ (0, 0) _ rfl Z8.out hu27 rfl (by exact size27)) rfl ?_
    exact ends_ok (rows_nil _ (boolV bb) rfl rfl) HB8.out
  have b4 : (a.f0 == 4) = false := beq_eq_false_iff_ne.2 k4
  have hR : argR e a = (z27, 0) := by unfold argR; rw [b0, b1, b2, b3, b4]; rfl
  rw [hR]
  clear k0 k1 k2 k3 k4 hR
  go_enter Tryz.func74, Tryz.ntmps74
  go_upto_region 1 with (fail)
  generalize hw4 : w.alloc zeros = w4 at *
  clear hw4
  go_wp2_with (first | ((with_reducible refine gate_store (t := 27) (p := 4) rfl ?_); refine row_event (by rfl) (by rfl) (by rfl) (by rfl) (by rfl) A2.out (by exact size27) (by rfl) (by first | rfl | simp [Value.oneCell']) ?_; intro w8 hz8 ho8 hb8; have Z8 := Lib.hid hz8; have HB8 := Lib.hid (hb8 (Nat.le_refl _) A3.out); clear hb8 ho8 hz8))
  refine bodyPost_ret (results_cell_row rfl _ _ w.heap.size 27 _ (0, 0) _ rfl Z8.out hu27 rfl (by exact size27)) rfl ?_
  exact ends_ok (rows_nil _ z27 rfl rfl) HB8.out
end Go.Proofs.YtdghnfmhcnlppaaGreatDoor.Eval
