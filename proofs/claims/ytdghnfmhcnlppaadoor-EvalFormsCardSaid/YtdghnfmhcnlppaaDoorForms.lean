/- The law EvalForms, walked: whatever the way and the number, its answer is true. -/
import Derived.Test.YtdghnfmhcnlppaaDoorFormsP
namespace Go.Proofs.YtdghnfmhcnlppaaDoor.Eval
open Go.RowKit Go.Proofs.YtdghnfmhcnlppaaDoor.Q Go.Proofs.YtdghnfmhcnlppaaDoor.Real Go.Proofs.YtdghnfmhcnlppaaDoor.RealPure Go.Proofs.YtdghnfmhcnlppaaDoor.Values Go.Proofs.YtdghnfmhcnlppaaDoor.Fns Go.Proofs.YtdghnfmhcnlppaaDoorW.PrintWords Go.Proofs.YtdghnfmhcnlppaaDoorW.PrintLast Go.Proofs.YtdghnfmhcnlppaaDoorW.PrintMore
set_option linter.unusedSimpArgs false
set_option linter.unusedVariables false

set_option maxHeartbeats 16000000 in
set_option maxRecDepth 100000 in
theorem forms_calls (a0 a1 : Int) (w : World) (hT : Tabs w) :
    Calls Tryd.prog 3 #[.int .i64 a0, .int .i64 a1] w fun en w' => en = .returned (.bool true) ∧ Below w.heap.size w w' := by
  have hu33 := Tryd.underlying33
  have HB := Lib.hid (Below.refl w.heap.size w)
  have HT := Lib.hid hT
  clear hT
  go_enter Tryd.func3, Tryd.ntmps3
  go_upto_region 4 with (first | (go_at_call 5; (with_reducible refine (awake_calls _ (HT.out.below HB.out)).mono ?_); rintro en w1 ⟨rfl, hb⟩; have HB' := Lib.hid (below_step HB.out hb); clear HB; have HB := HB'; clear HB'; clear hb))
  obtain ⟨d, hd, hd1, hd2⟩ := and63 a1
  rw [hd]
  clear hd
  go_upto_region 5 with (first | ((with_reducible refine gate_dst (N := 18) rfl ?_); refine lit_raw 25 1 ?hg (N := 18) ?hd (inner := [.int .i64 0, .string ⟨#[]⟩, .slice none 0 0, .int .i64 0, .string ⟨#[]⟩]) ?hr ?_; (case hd => rfl); (case hg => rfl); (case hr => first | (go_simp; done) | (go_simp; rfl)); intro gA1 wlA1 hc hb hge; have LA1 := Lib.hid (Nat.le_trans (below_size HB.out) hge); have MA1 := Lib.hid hge; have A1 := Lib.hid hc; have HB' := Lib.hid (below_step HB.out hb); clear HB; have HB := HB'; clear HB'; have KA := Lib.hid hc; have BAW := Lib.hid (Below.refl wlA1.heap.size wlA1); have BA0 := Lib.hid HB.out; clear hc hb hge) | ((with_reducible refine gate_dst (N := 20) rfl ?_); refine lit_raw 28 1 ?hg (N := 20) ?hd (inner := [.string ⟨#[]⟩, .slice (some ⟨gA1, 0, none⟩) 1 1]) ?hr ?_; (case hd => rfl); (case hg => rfl); (case hr => first | (go_simp; done) | (go_simp; rfl)); intro gP1 wlP1 hc hb hge; have LP1 := Lib.hid (Nat.le_trans (below_size HB.out) hge); have MP1 := Lib.hid hge; have P1 := Lib.hid hc; have HB' := Lib.hid (below_step HB.out hb); have A1' := Lib.hid (blk_below A1.out hb); have BAW' := Lib.hid (below_step BAW.out hb); clear HB; have HB := HB'; clear HB'; clear A1; have A1 := A1'; clear A1'; clear BAW; have BAW := BAW'; clear BAW'; clear hc hb hge))
  go_upto_region 6 with (first | (go_at_call 6; (with_reducible refine (num_calls 3 _).mono ?_); rintro en w3 ⟨rfl, hb⟩; have HB' := Lib.hid (below_step HB.out hb); have A1' := Lib.hid (blk_below A1.out hb); have BAW' := Lib.hid (below_step BAW.out hb); have P1' := Lib.hid (blk_below P1.out hb); clear HB; have HB := HB'; clear HB'; clear A1; have A1 := A1'; clear A1'; clear BAW; have BAW := BAW'; clear BAW'; clear P1; have P1 := P1'; clear P1'; clear hb) | (go_at_call 6; (with_reducible refine (num_calls 1 _).mono ?_); rintro en w4 ⟨rfl, hb⟩; have HB' := Lib.hid (below_step HB.out hb); have A1' := Lib.hid (blk_below A1.out hb); have BAW' := Lib.hid (below_step BAW.out hb); have P1' := Lib.hid (blk_below P1.out hb); clear HB; have HB := HB'; clear HB'; clear A1; have A1 := A1'; clear A1'; clear BAW; have BAW := BAW'; clear BAW'; clear P1; have P1 := P1'; clear P1'; clear hb) | ((with_reducible refine gate_dst (N := 24) rfl ?_); refine lit_raw 36 1 ?hg (N := 24) ?hd (inner := [.string ⟨#[120]⟩, .int .i64 (numV 1).f0, .int .i64 (numV 1).f1, .int .u64 (numV 1).f2, .string (numV 1).f3, .slice none (numV 1).f4.length 0, .slice none (numV 1).f5.length 0]) ?hr ?_; (case hd => rfl); (case hg => rfl); (case hr => first | (go_simp; done) | (go_simp; rfl)); intro gV1 wlV1 hc hb hge; have LV1 := Lib.hid (Nat.le_trans (below_size HB.out) hge); have MV1 := Lib.hid hge; have V1 := Lib.hid hc; have HB' := Lib.hid (below_step HB.out hb); have A1' := Lib.hid (blk_below A1.out hb); have BAW' := Lib.hid (below_step BAW.out hb); have P1' := Lib.hid (blk_below P1.out hb); clear HB; have HB := HB'; clear HB'; clear A1; have A1 := A1'; clear A1'; clear BAW; have BAW := BAW'; clear BAW'; clear P1; have P1 := P1'; clear P1'; clear hc hb hge) | ((with_reducible refine gate_store (t := 39) (p := 7) rfl ?_); refine row_event (by rfl) (by rfl) (by rfl) (by rfl) (by rfl) (blk_new wlV1 zerosE) (by exact sizeE) (by rfl) (by first | rfl | simp [Value.oneCell']) ?_; intro w5 hz ho hb0; have HNN := below_size HB.out; have hb := hb0 (w0 := wlV1) (Nat.le_refl _) (below_alloc (Below.refl _ _) _); have HB' := Lib.hid (below_step HB.out hb); have A1' := Lib.hid (blk_below A1.out hb); have BAW' := Lib.hid (below_step BAW.out hb); have P1' := Lib.hid (blk_below P1.out hb); have V1' := Lib.hid (blk_below V1.out hb); clear HB; have HB := HB'; clear HB'; clear A1; have A1 := A1'; clear A1'; clear BAW; have BAW := BAW'; clear BAW'; clear P1; have P1 := P1'; clear P1'; clear V1; have V1 := V1'; clear V1'; have N0 := Lib.hid (show w5.heap[wlV1.heap.size]? = some (Obj.cells #[.int .i64 2, .int .i64 3, .int .u64 0, .string ⟨#[]⟩, .slice none 0 0, .slice none 0 0, .slice (some ⟨gV1, 0, none⟩) 1 1] 39 (0, 0)) from hz); have LN := Lib.hid HNN; clear hz ho hb0 hb HNN))
  generalize hgn : wlV1.heap.size = gn at *
  clear hgn
  obtain ⟨x0, x1, x2, x3, x4, x5, x6⟩ := box7 N0.out
  have HP0 := Lib.hid (C_cmd ⟨⟨#[]⟩, [aZ]⟩ (C_arg aZ rfl A1.out) (Nat.le_refl _) P1.out)
  have HV0 := Lib.hid (C_var ⟨⟨#[120]⟩, numV 1⟩ rfl rfl V1.out)
  have CP := Lib.hid (by exact pipe_got pZ (some ⟨gP1, 0, none⟩) 1 eZ none 0 none 0 (some ⟨gV1, 0, none⟩) 1 w5 _ _ pipeZ (rows_leaf w5 (numV 3) rfl rfl HV0.out (Nat.le_refl _)) HP0.out (Nat.le_refl _) (HT.out.below HB.out) goodZ : Calls Tryd.prog 7 #[.slice (some ⟨gP1, 0, none⟩) 1 1, .agg #[.int .i64 2, .int .i64 3, .int .u64 0, .string ⟨#[]⟩, .slice none 0 0, .slice none 0 0, .slice (some ⟨gV1, 0, none⟩) 1 1]] w5 fun en w' => ∃ E e4 Fa f4, en = .returned (.tuple #[.agg #[.int .i64 2, .int .i64 3, .int .u64 0, .string ⟨#[]⟩, .slice E 0 e4, .slice Fa 0 f4], .int .i64 0]) ∧ Rows4 w' (⟨2, 3, 0, ⟨#[]⟩, [], []⟩ : V) E e4 Fa f4 ∧ Below w5.heap.size w5 w')
  clear HP0 HV0
  go_upto_region 7 with (first | (go_at_call 7; (with_reducible refine (CP.out).mono ?_); rintro en w6 ⟨E, e4, Fa, f4, rfl, _, hb⟩; have HB' := Lib.hid (below_step HB.out hb); have A1' := Lib.hid (blk_below A1.out hb); have BAW' := Lib.hid (below_step BAW.out hb); have P1' := Lib.hid (blk_below P1.out hb); have V1' := Lib.hid (blk_below V1.out hb); have N0' := Lib.hid (blk_below N0.out hb); clear HB; have HB := HB'; clear HB'; clear A1; have A1 := A1'; clear A1'; clear BAW; have BAW := BAW'; clear BAW'; clear P1; have P1 := P1'; clear P1'; clear V1; have V1 := V1'; clear V1'; clear N0; have N0 := N0'; clear N0'; clear hb) | ((with_reducible refine gate_store (t := 33) (p := 8) rfl ?_); refine row_event (by rfl) (by rfl) (by rfl) (by rfl) (by rfl) (blk_new w6 zeros) (by exact size33) (by rfl) (by first | rfl | simp [Value.oneCell']) ?_; intro w7 hz ho hb0; have hb := hb0 (w0 := w6) (Nat.le_refl _) (below_alloc (Below.refl _ _) _); have HB' := Lib.hid (below_step HB.out hb); have A1' := Lib.hid (blk_below A1.out hb); have BAW' := Lib.hid (below_step BAW.out hb); have P1' := Lib.hid (blk_below P1.out hb); have V1' := Lib.hid (blk_below V1.out hb); have N0' := Lib.hid (blk_below N0.out hb); clear HB; have HB := HB'; clear HB'; clear A1; have A1 := A1'; clear A1'; clear BAW; have BAW := BAW'; clear BAW'; clear P1; have P1 := P1'; clear P1'; clear V1; have V1 := V1'; clear V1'; clear N0; have N0 := N0'; clear N0'; have X8 := Lib.hid hz; clear hz ho hb0 hb))
  generalize hg8 : w6.heap.size = g8 at *
  clear hg8
  have FE := Lib.hid (⟨A1.out, P1.out, V1.out, N0.out, X8.out, HB.out, LA1.out, LP1.out, LV1.out, LN.out⟩ : Fe w w7 gA1 gP1 gV1 gn g8 E e4 Fa f4)
  clear A1 P1 V1 N0 X8 HB CP x0 x1 x2 x3 x4 x5 x6 LA1 LP1 LV1 LN MA1 MV1
  go_upto_block 0 with (fail)
  obtain ⟨r, hr, hr0, hr1⟩ := mod9 a0
  rw [hr]
  clear hr
  go_cut [6] (fun v6 wc => BadE w wc gn g8 E e4 Fa f4 v6)
  case first =>
    go_upto_region 9 with (fail)
    have hcase : r = 0 ∨ r = 1 ∨ r = 2 ∨ r = 3 ∨ r = 4 ∨ r = 5 ∨ r = 6 ∨ r = 7 ∨ r = 8 := by omega
    clear hr0 hr1
    have pc0 := (blk_cell FE.out.P 0).trans rfl; have pf0 := blk_frozen FE.out.P 0; have pc1 := (blk_cell FE.out.P 1).trans rfl; have pf1 := blk_frozen FE.out.P 1
    have ac0 := (blk_cell FE.out.A 0).trans rfl; have af0 := blk_frozen FE.out.A 0
    have nc0 := (blk_cell FE.out.N 0).trans rfl; have nf0 := blk_frozen FE.out.N 0; have nc1 := (blk_cell FE.out.N 1).trans rfl; have nf1 := blk_frozen FE.out.N 1; have nc2 := (blk_cell FE.out.N 2).trans rfl; have nf2 := blk_frozen FE.out.N 2; have nc3 := (blk_cell FE.out.N 3).trans rfl; have nf3 := blk_frozen FE.out.N 3; have nc4 := (blk_cell FE.out.N 4).trans rfl; have nf4 := blk_frozen FE.out.N 4; have nc5 := (blk_cell FE.out.N 5).trans rfl; have nf5 := blk_frozen FE.out.N 5; have nc6 := (blk_cell FE.out.N 6).trans rfl; have nf6 := blk_frozen FE.out.N 6
    have vc0 := (blk_cell FE.out.V 0).trans rfl; have vf0 := blk_frozen FE.out.V 0; have vc1 := (blk_cell FE.out.V 1).trans rfl; have vf1 := blk_frozen FE.out.V 1; have vc2 := (blk_cell FE.out.V 2).trans rfl; have vf2 := blk_frozen FE.out.V 2; have vc3 := (blk_cell FE.out.V 3).trans rfl; have vf3 := blk_frozen FE.out.V 3
    have w5 : wrap64 (5 + d) = 5 + d := Values.wrap_small _ (by omega) (by omega)
    have w32 : wrap64 (32 + d) = 32 + d := Values.wrap_small _ (by omega) (by omega)
    have h5d : 5 < 5 + d := by omega
    have HM := Lib.hid (show 32 < (32 + d).toNat ∧ (32 + d).toNat ≤ 100 by omega)
    have HM0 := Lib.hid (show 0 ≤ 32 + d by omega)
    have HD := Lib.hid h5d
    clear h5d
    rcases hcase with rfl | rfl | rfl | rfl | rfl | rfl | rfl | rfl | rfl
    · go_wp2
      go_meet
      case rel => exact bad_0 FE.out
    · go_wp2
      go_meet
      case rel => exact bad_1 FE.out
    · go_wp2
      go_meet
      case rel => exact bad_2 FE.out
    · go_wp2
      go_meet
      case rel => exact bad_3 FE.out _ HD.out
    · go_wp2_with (first | ((with_reducible refine gate_builtin (b := .append) (xs := #[.tmp 63, .tmp 67]) rfl ?_); at_builtin; refine Kd.R_append (oldK kC wlA1) (w0 := wlA1) wlA1.heap.size rfl (.tmp 63) (.tmp 67) 29 28 (.agg #[.string ⟨#[]⟩, .slice none 0 0]) 40 rfl Tryd.underlying29 info28 rfl (by exact Nat.succ_pos 1) (by decide) (.slice (some ⟨gP1, 0, none⟩) 1 1) pZ ⟨⟨#[]⟩, [aZ]⟩ [.string ⟨#[]⟩, .slice (some ⟨gA1, 0, none⟩) 1 1] (fun _ => True) (fun _ => False) rfl rfl ?aP (fun _ h => h.elim) (fun _ _ => trivial) ?aO BAW.out ?aS ?aL ?_; (case aP => exact K_cmd wlA1 ⟨⟨#[]⟩, [aZ]⟩ (C_arg aZ rfl KA.out) (Nat.le_refl _)); (case aO => exact FE.out.own KA.out MP1.out); (case aS => exact below_size BAW.out); (case aL => simp); intro v9 w9 hr9 hb9 hg9 hat9; obtain ⟨A9, c9, rfl⟩ := Kd.R_slice hr9; have HO9 := Lib.hid hr9; have HB9 := Lib.hid hb9; have HG9 := Lib.hid hg9; clear hr9 hb9 hg9 hat9))
      go_meet
      case rel =>
        have hCC := (Kd.R_reads' HO9.out)
        have far : ∀ {k : Nat} {ob : Obj}, w7.heap[k]? = some ob → k ≠ gP1 → w9.heap[k]? = w7.heap[k]? := fun {k ob} hk hne => HG9.out.block k (blk_lt hk) (fun he => hne (Option.some.inj he))
        exact bad_4 FE.out (below_step BA0.out HB9.out) (old_C hCC.2.2 HB9.out) hCC.2.1 (far FE.out.V (blk_ne FE.out.V FE.out.P (by decide))) (far FE.out.N (blk_ne FE.out.N FE.out.P (by decide))) (far FE.out.X (blk_ne FE.out.X FE.out.P (by decide)))
    · go_wp2
      go_meet
      case rel => exact bad_5 FE.out
    · go_wp2
      go_meet
      case rel => exact bad_6 FE.out
    · go_wp2
      go_meet
      case rel => exact bad_7 FE.out
    · go_wp2_with (first | ((with_reducible refine gate_dst (N := 37) rfl ?_); refine Kd.R_make kX (w0 := w7) w7.heap.size 36 ?hg (N := 37) ?hd 37 (.tmp 36) (.tmp 36) ?ho (32 + d) ?hx ?hy Tryd.underlying37 _ 104 info36 rfl (by exact Nat.succ_pos 6) (by decide) z36 (ok := fun _ => True) (okp := fun _ => False) ?hz (fun _ h => h.elim) trivial HM0.out ?hl (Below.refl _ _) (Nat.le_refl _) ?_; (case hg => rfl); (case hd => rfl); (case ho => rfl); (case hx => rfl); (case hy => rfl); (case hz => exact k36_mkM _ _ _ z36 (Kd.R_nil _ _ _ _ _) (Kd.R_nil _ _ _ _ _)); (case hl => have := HM.out.2; show (32 + d).toNat * 104 ≤ _; omega); intro v9 w9 hr9 hb9 hg9 hat9; obtain ⟨A9, c9, rfl⟩ := Kd.R_slice hr9; have HR9 := Lib.hid (show kX.R 36 w9 w7.heap.size (fun _ => True) (.slice A9 (List.replicate (32 + d).toNat z36).length c9) (List.replicate (32 + d).toNat z36) from hr9); have HB9 := Lib.hid hb9; have n6 := pw_cell_below hb9 nc6; have nf6' := blk_frozen (blk_below FE.out.N hb9) 6; clear hr9 hb9 hg9 hat9))
      go_meet
      case rel =>
        have hR9 := HR9.out
        rw [List.length_replicate] at hR9
        exact bad_8 FE.out HM.out.1 HB9.out hR9
  case rest =>
    clear FE hr0 hr1
    unfold BadE at hcut
    obtain ⟨A, cp, p, e, A4, c4, A5, c5, A6, c6, rfl, hcp, hC, hpp, hE, hRE, hgd, hX, hB⟩ := hcut
    have CP := Lib.hid (pipe_got p A cp e A4 c4 A5 c5 A6 c6 wc _ _ hpp hRE hC hcp (HT.out.below hB) hgd)
    have HB := Lib.hid hB
    have HX := Lib.hid hX
    obtain ⟨x0, x1, x2, x3, x4, x5, x6⟩ := box7 hE
    clear hcp hC hpp hE hRE hgd hX hB
    go_upto_region 33 with (first | (go_at_call 7; (with_reducible refine (CP.out).mono ?_); rintro en w8 ⟨E2, e2, F2, f2, rfl, _, hb⟩; have HB' := Lib.hid (below_step HB.out hb); have HX' := Lib.hid (blk_below HX.out hb); clear HB; have HB := HB'; clear HB'; clear HX; have HX := HX'; clear HX'; clear hb) | ((with_reducible refine gate_store (t := 33) (p := 10) rfl ?_); refine row_event (by rfl) (by rfl) (by rfl) (by rfl) (by rfl) (blk_new w8 zeros) (by exact size33) (by rfl) (by first | rfl | simp [Value.oneCell']) ?_; intro w9 hz ho hb0; have hb := hb0 (w0 := w8) (Nat.le_refl _) (below_alloc (Below.refl _ _) _); have HB' := Lib.hid (below_step HB.out hb); have HX' := Lib.hid (blk_below HX.out hb); clear HB; have HB := HB'; clear HB'; clear HX; have HX := HX'; clear HX'; have Y0 := Lib.hid hz; clear hz ho hb0 hb))
    generalize hgy : w8.heap.size = gy at *
    clear hgy
    have hbd := below_drew (Below.refl w9.heap.size w9)
    have HXD := Lib.hid (blk_below HX.out hbd); have Y0D := Lib.hid (blk_below Y0.out hbd); have HBD := Lib.hid (below_step HB.out hbd)
    clear hbd HX Y0 HB CP x0 x1 x2 x3 x4 x5 x6
    have SVA := Lib.hid (fun W => (by exact sv_leafs (⟨2, 3, 0, ⟨#[]⟩, [], []⟩ : V) (numV 3) rfl rfl rfl rfl (by kernel_rfl) E e4 Fa f4 W : Calls Tryd.prog 9 #[.agg #[.int .i64 2, .int .i64 3, .int .u64 0, .string ⟨#[]⟩, .slice E 0 e4, .slice Fa 0 f4], arg (numV 3) none 0 none 0] W fun e w' => e = .returned (.bool true) ∧ Below W.heap.size W w'))
    have SVB := Lib.hid (fun W => (by exact sv_leafs z33 (⟨0, 0, 0, ⟨#[]⟩, [], []⟩ : V) rfl rfl rfl rfl (by kernel_rfl) E2 e2 F2 f2 W : Calls Tryd.prog 9 #[.agg #[.int .i64 z33.f0, .int .i64 z33.f1, .int .u64 z33.f2, .string z33.f3, .slice E2 z33.f4.length e2, .slice F2 z33.f5.length f2], .agg #[.int .i64 0, .int .i64 0, .int .u64 0, .string ⟨#[]⟩, .slice none 0 0, .slice none 0 0]] W fun e w' => e = .returned (.bool true) ∧ Below W.heap.size W w'))
    have KEEP : ∀ w', Below w9.drew.heap.size w9.drew w' → (Below w9.drew.heap.size w9.drew w' ∧ w'.cell? ⟨gy, 0, none⟩ = some (.int .i64 z33.f0) ∧ w'.cell? ⟨gy, 1, none⟩ = some (.int .i64 z33.f1) ∧ w'.cell? ⟨gy, 2, none⟩ = some (.int .u64 z33.f2) ∧ w'.cell? ⟨gy, 3, none⟩ = some (.string z33.f3) ∧ w'.cell? ⟨gy, 4, none⟩ = some (.slice E2 z33.f4.length e2) ∧ w'.cell? ⟨gy, 5, none⟩ = some (.slice F2 z33.f5.length f2) ∧ w'.cell? ⟨g8, 0, none⟩ = some (.int .i64 2) ∧ w'.cell? ⟨g8, 1, none⟩ = some (.int .i64 3) ∧ w'.cell? ⟨g8, 2, none⟩ = some (.int .u64 0) ∧ w'.cell? ⟨g8, 3, none⟩ = some (.string ⟨#[]⟩) ∧ w'.cell? ⟨g8, 4, none⟩ = some (.slice E 0 e4) ∧ w'.cell? ⟨g8, 5, none⟩ = some (.slice Fa 0 f4)) := fun w' h => ⟨h, (At.of_box (blk_below Y0D.out h)).g0, (At.of_box (blk_below Y0D.out h)).g1, (At.of_box (blk_below Y0D.out h)).g2, (At.of_box (blk_below Y0D.out h)).g3, (At.of_box (blk_below Y0D.out h)).g4, (At.of_box (blk_below Y0D.out h)).g5, (blk_cell (blk_below HXD.out h) 0).trans rfl, (blk_cell (blk_below HXD.out h) 1).trans rfl, (blk_cell (blk_below HXD.out h) 2).trans rfl, (blk_cell (blk_below HXD.out h) 3).trans rfl, (blk_cell (blk_below HXD.out h) 4).trans rfl, (blk_cell (blk_below HXD.out h) 5).trans rfl⟩
    go_region_held3 (fun w' => Below w9.drew.heap.size w9.drew w' ∧ w'.cell? ⟨gy, 0, none⟩ = some (.int .i64 z33.f0) ∧ w'.cell? ⟨gy, 1, none⟩ = some (.int .i64 z33.f1) ∧ w'.cell? ⟨gy, 2, none⟩ = some (.int .u64 z33.f2) ∧ w'.cell? ⟨gy, 3, none⟩ = some (.string z33.f3) ∧ w'.cell? ⟨gy, 4, none⟩ = some (.slice E2 z33.f4.length e2) ∧ w'.cell? ⟨gy, 5, none⟩ = some (.slice F2 z33.f5.length f2) ∧ w'.cell? ⟨g8, 0, none⟩ = some (.int .i64 2) ∧ w'.cell? ⟨g8, 1, none⟩ = some (.int .i64 3) ∧ w'.cell? ⟨g8, 2, none⟩ = some (.int .u64 0) ∧ w'.cell? ⟨g8, 3, none⟩ = some (.string ⟨#[]⟩) ∧ w'.cell? ⟨g8, 4, none⟩ = some (.slice E 0 e4) ∧ w'.cell? ⟨g8, 5, none⟩ = some (.slice Fa 0 f4)) (first | exact KEEP _ (Below.refl _ _) | exact KEEP _ (below_step (by first | assumption | exact And.left (by assumption) | exact Below.refl _ _) hb) | assumption) (first | (go_at_call 8; (with_reducible refine (numB 0 _).mono ?_); rintro en wn ⟨rfl, hb⟩) | (go_at_call 8; (with_reducible refine (numB 1900 _).mono ?_); rintro en wn ⟨rfl, hb⟩) | (go_at_call 6; (with_reducible refine (num_calls 3 _).mono ?_); rintro en wn ⟨rfl, hb⟩) | (go_at_call 9; (with_reducible refine (SVA.out _).mono ?_); rintro en wn ⟨rfl, hb⟩) | (go_at_call 9; (with_reducible refine (SVB.out _).mono ?_); rintro en wn ⟨rfl, hb⟩))
    all_goals
      (try go_wp2)
      go_ret
      exact ⟨by simp, below_step HBD.out (by first | assumption | exact And.left (by assumption) | exact Below.refl _ _)⟩
end Go.Proofs.YtdghnfmhcnlppaaDoor.Eval
