/- The law EvalConsts, walked: whatever the constants, its answer is true. -/
import Derived.Test.YtdghnfmhcnlppaaDoorAwake19
import Derived.Test.YtdghnfmhcnlppaaDoorConstsP
namespace Go.Proofs.YtdghnfmhcnlppaaDoor.Eval
open Go.RowKit Go.Proofs.YtdghnfmhcnlppaaDoor.Q Go.Proofs.YtdghnfmhcnlppaaDoor.Real Go.Proofs.YtdghnfmhcnlppaaDoor.RealPure Go.Proofs.YtdghnfmhcnlppaaDoor.Values Go.Proofs.YtdghnfmhcnlppaaDoor.Fns Go.Proofs.YtdghnfmhcnlppaaDoorW.PrintWords Go.Proofs.YtdghnfmhcnlppaaDoorW.PrintLast Go.Proofs.YtdghnfmhcnlppaaDoorW.PrintMore
set_option linter.unusedSimpArgs false
set_option linter.unusedVariables false

theorem SameFrom.of_new {b g : Nat} {W Wa : World} (h : Below g W Wa) (hg : W.heap.size = g) (v0 v1 v2 v3 v4 v5 : Value) :
    SameFrom b W ((((((Wa.setCell ⟨g, 0, none⟩ v0).setCell ⟨g, 1, none⟩ v1).setCell ⟨g, 2, none⟩ v2).setCell ⟨g, 3, none⟩ v3).setCell ⟨g, 4, none⟩ v4).setCell ⟨g, 5, none⟩ v5) :=
  fun k _ hk => (row_far6 (by omega) v0 v1 v2 v3 v4 v5).trans (h.block k (by omega))
theorem reps_argsK (W : World) (k : Int) (s : ByteArray) (t : Int) : Reps (kA.K W) 5 (argsK k s t) [.int .i64 2, .string ⟨#[]⟩, .slice none 0 0, .int .i64 (-k), .string ⟨#[]⟩, .int .i64 3, .string ⟨#[]⟩, .slice none 0 0, .int .i64 0, .string s, .int .i64 4, .string ⟨#[]⟩, .slice none 0 0, .int .i64 t, .string ⟨#[]⟩, .int .i64 5, .string ⟨#[]⟩, .slice none 0 0, .int .i64 0, .string ⟨#[]⟩] := by
  have h0 := K_arg W ⟨2, ⟨#[]⟩, [], -k, ⟨#[]⟩⟩ (A2 := none) (c2 := 0) (Kd.C_nil _ _) (Nat.le_refl _)
  have h1 := K_arg W ⟨3, ⟨#[]⟩, [], 0, s⟩ (A2 := none) (c2 := 0) (Kd.C_nil _ _) (Nat.le_refl _)
  have h2 := K_arg W ⟨4, ⟨#[]⟩, [], t, ⟨#[]⟩⟩ (A2 := none) (c2 := 0) (Kd.C_nil _ _) (Nat.le_refl _)
  have h3 := K_arg W ⟨5, ⟨#[]⟩, [], 0, ⟨#[]⟩⟩ (A2 := none) (c2 := 0) (Kd.C_nil _ _) (Nat.le_refl _)
  have q := ((((Reps.none (kA.K W) 5).snoc h0 (kA.K_len h0)).snoc h1 (kA.K_len h1)).snoc h2 (kA.K_len h2)).snoc h3 (kA.K_len h3)
  exact q
theorem reps_wantK (W : World) (k : Int) (s : ByteArray) (t : Int) : Reps (k33.K W) 6 (wantK k s t) [.int .i64 (numV (-k)).f0, .int .i64 (numV (-k)).f1, .int .u64 (numV (-k)).f2, .string (numV (-k)).f3, .slice none (numV (-k)).f4.length 0, .slice none (numV (-k)).f5.length 0, .int .i64 (textV s).f0, .int .i64 (textV s).f1, .int .u64 (textV s).f2, .string (textV s).f3, .slice none (textV s).f4.length 0, .slice none (textV s).f5.length 0, .int .i64 1, .int .i64 t, .int .u64 0, .string ⟨#[]⟩, .slice none 0 0, .slice none 0 0, .int .i64 0, .int .i64 0, .int .u64 0, .string ⟨#[]⟩, .slice none 0 0, .slice none 0 0] := by
  have h0 := K_of (rows_nil W (numV (-k)) rfl rfl)
  have h1 := K_of (rows_nil W (textV s) rfl rfl)
  have h2 := K_of (rows_nil W ⟨1, t, 0, ⟨#[]⟩, [], []⟩ rfl rfl)
  have h3 := K_of (rows_nil W z33 rfl rfl)
  have q := ((((Reps.none (k33.K W) 6).snoc h0 (k33.K_len h0)).snoc h1 (k33.K_len h1)).snoc h2 (k33.K_len h2)).snoc h3 (k33.K_len h3)
  exact q

set_option maxHeartbeats 16000000 in
set_option maxRecDepth 100000 in
theorem consts_calls (a0 : Int) (a1 : ByteArray) (a2 : Bool) (w : World) (hT : Tabs w) :
    Calls Tryd.prog 4 #[.int .i64 a0, .string a1, .bool a2] w fun en w' => en = .returned (.bool true) ∧ Below w.heap.size w w' := by
  have hu33 := Tryd.underlying33
  obtain ⟨k, hk, hk0, hk1⟩ := and53 a0
  have wn : wrap64 (-k) = -k := Values.wrap_small _ (by omega) (by omega)
  have wn' : IntKind.i64.wrap (-k) = -k := by rw [i64_w]; exact wn
  have HB := Lib.hid (Below.refl w.heap.size w)
  have HT := Lib.hid hT
  have HK := Lib.hid (And.intro hk0 hk1)
  obtain ⟨tt, htt⟩ : ∃ tt : Int, (if a2 = true then (1 : Int) else 0) = tt := ⟨_, rfl⟩
  have HTT := Lib.hid (show tt = 0 ∨ tt = 1 by rw [← htt]; cases a2; exact .inl rfl; exact .inr rfl)
  clear hT hk0 hk1
  go_enter Tryd.func4, Tryd.ntmps4
  go_upto_if 20 with (first | (go_at_call 5; (with_reducible refine (awake_calls _ (HT.out.below HB.out)).mono ?_); rintro en wa ⟨rfl, hb⟩; have HB' := Lib.hid (below_step HB.out hb); clear HB; have HB := HB'; clear HB'; clear hb))
  go_cut [8] (fun v8 wc => v8 = .int .i64 tt ∧ Aside0 (Below w.heap.size w wc))
  case first =>
    have HTF := Lib.hid htt
    clear htt
    cases a2
    · go_wp2
      go_meet
      case rel => exact ⟨by rw [← HTF.out]; rfl, ⟨HB.out⟩⟩
    · go_wp2
      go_meet
      case rel => exact ⟨by rw [← HTF.out]; rfl, ⟨HB.out⟩⟩
  case rest =>
    clear HB htt
    obtain ⟨rfl, HB0⟩ := hcut
    have HB := Lib.hid HB0.out
    clear HB0
    obtain ⟨big, hbig⟩ : ∃ b, decide (65536 < a1.size) = b := ⟨_, rfl⟩
    have hbig' : decide ((65536 : Int) < (a1.size : Int)) = big := by rw [← hbig]; exact decide_eq_decide.2 (by omega)
    go_upto_region 9 with (first | ((with_reducible refine gate_dst (N := 29) rfl ?_); refine lit_row kA 25 4 ?hg (N := 29) ?hd (xs := (argsK k a1 tt : List Ag)) (inner := [.int .i64 2, .string ⟨#[]⟩, .slice none 0 0, .int .i64 (-k), .string ⟨#[]⟩, .int .i64 3, .string ⟨#[]⟩, .slice none 0 0, .int .i64 0, .string a1, .int .i64 4, .string ⟨#[]⟩, .slice none 0 0, .int .i64 tt, .string ⟨#[]⟩, .int .i64 5, .string ⟨#[]⟩, .slice none 0 0, .int .i64 0, .string ⟨#[]⟩]) rfl ?hr ?hp (by decide) ?_; (case hd => rfl); (case hg => rfl); (case hr => first | (go_simp; done) | (go_simp; rfl)); (case hp => exact reps_argsK _ k a1 tt); intro adLA wlLA hc hb; have LA := Lib.hid hc; have HB' := Lib.hid (below_step HB.out hb); clear HB; have HB := HB'; clear HB'; clear hc hb) | (go_at_call 6; (with_reducible refine (num_calls (-k) _).mono ?_); rintro en wb ⟨rfl, hb⟩; have HB' := Lib.hid (below_step HB.out hb); have LA' := Lib.hid (Kd.C_below LA.out hb); clear HB; have HB := HB'; clear HB'; clear LA; have LA := LA'; clear LA'; clear hb) | (go_at_call 10; (with_reducible refine (text_calls a1 _).mono ?_); rintro en wc ⟨rfl, hb⟩; have HB' := Lib.hid (below_step HB.out hb); have LA' := Lib.hid (Kd.C_below LA.out hb); clear HB; have HB := HB'; clear HB'; clear LA; have LA := LA'; clear LA'; clear hb) | ((with_reducible refine gate_dst (N := 38) rfl ?_); refine lit_row k33 33 4 ?hg (N := 38) ?hd (xs := (wantK k a1 tt : List V)) (inner := [.int .i64 (numV (-k)).f0, .int .i64 (numV (-k)).f1, .int .u64 (numV (-k)).f2, .string (numV (-k)).f3, .slice none (numV (-k)).f4.length 0, .slice none (numV (-k)).f5.length 0, .int .i64 (textV a1).f0, .int .i64 (textV a1).f1, .int .u64 (textV a1).f2, .string (textV a1).f3, .slice none (textV a1).f4.length 0, .slice none (textV a1).f5.length 0, .int .i64 1, .int .i64 tt, .int .u64 0, .string ⟨#[]⟩, .slice none 0 0, .slice none 0 0, .int .i64 0, .int .i64 0, .int .u64 0, .string ⟨#[]⟩, .slice none 0 0, .slice none 0 0]) rfl ?hr ?hp (by decide) ?_; (case hd => rfl); (case hg => rfl); (case hr => first | (go_simp; done) | (go_simp; rfl)); (case hp => exact reps_wantK _ k a1 tt); intro adLW wlLW hc hb; have LW := Lib.hid hc; have HB' := Lib.hid (below_step HB.out hb); have LA' := Lib.hid (Kd.C_below LA.out hb); clear HB; have HB := HB'; clear HB'; clear LA; have LA := LA'; clear LA'; clear hc hb))
    cases big
    rotate_left
    · go_wp2
      go_ret
      exact ⟨rfl, HB.out⟩
    have HS := Lib.hid (show a1.size ≤ 65536 by have := of_decide_eq_false hbig; omega)
    have HALL := Lib.hid (consts_all k a1 tt HK.out.1 HK.out.2 HS.out HTT.out)
    go_wp2
    have HB1 := Lib.hid HB.out
    have W1 := Aside0.mk (Below.refl wlLW.heap.size wlLW)
    clear HB hk wn wn' hbig hbig'
    have HT1 := Lib.hid (HT.out.below HB1.out)
    have hs3 : ∀ W, (Instr.slice 26 (.slice (some adLA) 4 4) (some (.int .i64 3)) (some (.int .i64 4)) none).run Tryd.prog W = .ok (.slice (some ⟨adLA.block, adLA.off + 15, none⟩) 1 1) W := fun W => slice_args adLA 3 (by decide) W
    go_loopg [11] 4 (fun kq v11 wr => ∃ i : Nat, v11 = .int .i64 (i : Int) ∧ Aside0 (i + kq = 4) ∧ Aside0 (Below wlLW.heap.size wlLW wr))
    case atStart => exact ⟨0, rfl, ⟨by omega⟩, W1⟩
    case round =>
      clear W1
      obtain ⟨i, rfl, HI, HBR⟩ := hrel
      have hi := HI.out
      cases gk with
      | zero =>
        obtain rfl : i = 4 := by omega
        go_wp2
        go_ret
        exact ⟨rfl, below_step HB1.out HBR.out⟩
      | succ k2 =>
        have hlt : decide ((i : Int) < 4) = true := decide_eq_true (by omega)
        have hi4 : i < 4 := by omega
        have hs1 : ∀ W, (Instr.slice 26 (.slice (some adLA) 4 4) (some (.int .i64 (i : Int))) (some (.int .i64 ((i : Int) + 1))) none).run Tryd.prog W = .ok (.slice (some (adLA.add (i * 5))) 1 (4 - i)) W := slice_args adLA i hi4
        have wi : wrap64 ((i : Int) + 1) = (i : Int) + 1 := Values.wrap_small _ (by omega) (by omega)
        have wi' : IntKind.i64.wrap ((i : Int) + 1) = (i : Int) + 1 := by rw [i64_w]; exact wi
        have q0 : ((0 : Int) ≤ (i : Int)) = True := eq_true (by omega)
        have q1 : ((i : Int) < 4) = True := eq_true (by omega)
        have q2 : (i < 4) = True := eq_true hi4
        have HA1 := Lib.hid (show Kd.C kA wr (some (adLA.add (i * 5))) 1 [rd_T25 (argsK k a1 tt) (i : Int)] from Kd.C_below (C_one z25 LA.out i hi4) HBR.out)
        have HA3 := Lib.hid (show Kd.C kA wr (some ⟨adLA.block, adLA.off + 15, none⟩) 1 [(⟨5, ⟨#[]⟩, [], 0, ⟨#[]⟩⟩ : Ag)] from Kd.C_below (C_one z25 LA.out 3 (by decide)) HBR.out)
        obtain ⟨hp1, hp2⟩ := HALL.out i hi4
        obtain ⟨adx, E4, e4w, E5, e5w, hadx, hAt, hl4, hk4, hl5, hk5⟩ := At.of_elem LW.out (i : Int) (by omega) (by omega)
        obtain rfl : adLW = adx := Option.some.inj hadx
        have ti : (i : Int).toNat = i := by omega
        rw [ti] at hAt
        generalize rd_T25 (argsK k a1 tt) (i : Int) = aa at *
        generalize rd_T33 (wantK k a1 tt) (i : Int) = x at *
        have HW := Lib.hid (⟨hk4, hl4, hk5, hl5⟩ : Rows4 wlLW x E4 e4w E5 e5w)
        have HAT := Lib.hid hAt
        have HT2 := Lib.hid (HT1.out.below HBR.out)
        have h14 : 1 ≤ 4 - i := by omega
        have H14 := Lib.hid h14
        clear hadx hAt hl4 hk4 hl5 hk5 ti h14 hi
        have KP := Lib.hid (fun W (hT : Tabs W) (p : List Cm) (cp : Nat) (A : Option Addr) (hx : pipeR p envK = (x, 0)) (hA : Kd.C kC W A p.length p) (hc : p.length ≤ cp) => (by exact pipe_got p A cp envK none 0 none 0 none 0 W x 0 hx ⟨rows_nil _ z33 rfl rfl, Kd.C_nil _ _, Nat.le_refl _⟩ hA hc hT goodK : Calls Tryd.prog 7 #[.slice A p.length cp, .agg #[.int .i64 0, .int .i64 0, .int .u64 0, .string ⟨#[]⟩, .slice none 0 0, .slice none 0 0, .slice none 0 0]] W fun en w' => ∃ E e4 Fa f4, en = .returned (.tuple #[arg x E e4 Fa f4, .int .i64 0]) ∧ Rows4 w' x E e4 Fa f4 ∧ Below W.heap.size W w'))
        have CP1 := Lib.hid (fun W (hT : Tabs W) (A : Option Addr) (hA : Kd.C kC W A 1 [⟨⟨#[]⟩, [aa]⟩]) => (by exact KP.out W hT [⟨⟨#[]⟩, [aa]⟩] 1 A hp1 hA (Nat.le_refl _) : Calls Tryd.prog 7 #[.slice A 1 1, .agg #[.int .i64 0, .int .i64 0, .int .u64 0, .string ⟨#[]⟩, .slice none 0 0, .slice none 0 0, .slice none 0 0]] W fun en w' => ∃ E e4 Fa f4, en = .returned (.tuple #[arg x E e4 Fa f4, .int .i64 0]) ∧ Rows4 w' x E e4 Fa f4 ∧ Below W.heap.size W w'))
        have CQ := Lib.hid (fun W (hT : Tabs W) (A : Option Addr) (hA : Kd.C kC W A 2 [⟨⟨#[]⟩, [aa]⟩, orK]) => (by have q := Pipe_calls [⟨⟨#[]⟩, [aa]⟩, orK] A 2 envK none 0 none 0 none 0 W ⟨rows_nil _ z33 rfl rfl, Kd.C_nil _ _, Nat.le_refl _⟩ hA (Nat.le_refl _) hT goodK; rw [hp2] at q; exact q : Calls Tryd.prog 7 #[.slice A 2 2, .agg #[.int .i64 0, .int .i64 0, .int .u64 0, .string ⟨#[]⟩, .slice none 0 0, .slice none 0 0, .slice none 0 0]] W fun en w' => ∃ v4 v5, en = .returned (.tuple #[.agg #[.int .i64 x.f0, .int .i64 x.f1, .int .u64 x.f2, .string x.f3, v4, v5], .int .i64 0]) ∧ Kd.R k33 33 w' W.heap.size (fun k_ => some k_ ≠ v5.ownBlock) v4 x.f4 ∧ Kd.R Kd.string 9 w' W.heap.size (fun _ => True) v5 x.f5 ∧ Below W.heap.size W w'))
        clear KP hp1 hp2
        have HN2 := Lib.hid (Below.refl wr.heap.size wr)
        go_upto_region 15 with (first | ((with_reducible refine gate_dst (N := 53) rfl ?_); refine lit_row kC 28 1 ?hg (N := 53) ?hd (xs := ([⟨⟨#[]⟩, [aa]⟩] : List Cm)) (inner := [.string ⟨#[]⟩, .slice (some (adLA.add (i * 5))) 1 (4 - i)]) rfl ?hr ?hp (by decide) ?_; (case hd => rfl); (case hg => rfl); (case hr => first | (go_simp; done) | (go_simp; rfl)); (case hp => exact reps_cmd _ ⟨⟨#[]⟩, [aa]⟩ HA1.out H14.out); intro adP1 wlP1 hc hb; have P1 := Lib.hid hc; have HN2' := Lib.hid (below_step HN2.out hb); have HA1' := Lib.hid (Kd.C_below HA1.out hb); have HA3' := Lib.hid (Kd.C_below HA3.out hb); have HT2' := Lib.hid (Tabs.below HT2.out hb); clear HN2; have HN2 := HN2'; clear HN2'; clear HA1; have HA1 := HA1'; clear HA1'; clear HA3; have HA3 := HA3'; clear HA3'; clear HT2; have HT2 := HT2'; clear HT2'; clear hc hb) | (go_at_call 7; (with_reducible refine (CP1.out _ HT2.out _ P1.out).mono ?_); rintro en wp ⟨E1, e1, F1, f1, rfl, hr, hb⟩; have HN2' := Lib.hid (below_step HN2.out hb); have HA1' := Lib.hid (Kd.C_below HA1.out hb); have HA3' := Lib.hid (Kd.C_below HA3.out hb); have HT2' := Lib.hid (Tabs.below HT2.out hb); have P1' := Lib.hid (Kd.C_below P1.out hb); clear HN2; have HN2 := HN2'; clear HN2'; clear HA1; have HA1 := HA1'; clear HA1'; clear HA3; have HA3 := HA3'; clear HA3'; clear HT2; have HT2 := HT2'; clear HT2'; clear P1; have P1 := P1'; clear P1'; have R1 := Lib.hid hr; clear hr; clear hb) | ((with_reducible refine gate_store (t := 33) (p := 12) rfl ?_); refine row_event (by rfl) (by rfl) (by rfl) (by rfl) (by rfl) (blk_new wp zeros) (by exact size33) (by rfl) (by first | rfl | simp [Value.oneCell']) ?_; intro wps hz ho hb0; have hb := hb0 (w0 := wp) (Nat.le_refl _) (below_alloc (Below.refl _ _) _); have HN2' := Lib.hid (below_step HN2.out hb); have HA1' := Lib.hid (Kd.C_below HA1.out hb); have HA3' := Lib.hid (Kd.C_below HA3.out hb); have HT2' := Lib.hid (Tabs.below HT2.out hb); have P1' := Lib.hid (Kd.C_below P1.out hb); have R1' := Lib.hid (Rows4.below R1.out hb); clear HN2; have HN2 := HN2'; clear HN2'; clear HA1; have HA1 := HA1'; clear HA1'; clear HA3; have HA3 := HA3'; clear HA3'; clear HT2; have HT2 := HT2'; clear HT2'; clear P1; have P1 := P1'; clear P1'; clear R1; have R1 := R1'; clear R1'; have B1 := Lib.hid hz; clear hz ho hb0 hb))
        clear P1
        generalize hgb : wp.heap.size = gb1 at *
        clear hgb
        go_cut [14, 15] (fun v14 v15 wc => ∃ (g2 : Nat) (E : Option Addr) (e4 : Nat) (Fa : Option Addr) (f4 : Nat), v14 = .pointer (some ⟨g2, 0, none⟩) ∧ v15 = .int .i64 0 ∧ Aside0 (wc.heap[g2]? = some (.cells #[.int .i64 x.f0, .int .i64 x.f1, .int .u64 x.f2, .string x.f3, .slice E x.f4.length e4, .slice Fa x.f5.length f4] 33 (0, 0))) ∧ Aside0 (Rows4 wc x E e4 Fa f4) ∧ Aside0 (Below wps.heap.size wps wc))
        case first =>
          have hbd := below_drew (Below.refl wps.heap.size wps)
          have HN2' := Lib.hid (below_step HN2.out hbd); have HA1' := Lib.hid (Kd.C_below HA1.out hbd); have HA3' := Lib.hid (Kd.C_below HA3.out hbd); have HT2' := Lib.hid (Tabs.below HT2.out hbd); have R1' := Lib.hid (Rows4.below R1.out hbd); have B1' := Lib.hid (blk_below B1.out hbd); clear HN2; have HN2 := HN2'; clear HN2'; clear HA1; have HA1 := HA1'; clear HA1'; clear HA3; have HA3 := HA3'; clear HA3'; clear HT2; have HT2 := HT2'; clear HT2'; clear R1; have R1 := R1'; clear R1'; clear B1; have B1 := B1'; clear B1'
          have HD := Lib.hid hbd
          clear hbd B1 R1
          generalize hWD : wps.drew = wd at *
          have KEEP := Lib.hid (show ∀ w', Below wd.heap.size wd w' → (fun w' => Below wd.heap.size wd w') w' from fun w' h => h)
          refine wp_region_held_drew (S := (fun w' => Below wd.heap.size wd w')) (by kernel_rfl) ?_ (fun hHeld => ?_)
          · rw [hWD]; exact KEEP.out _ (Below.refl _ _)
          rw [hWD] at hHeld ⊢
          clear hWD
          have HN := Lib.hid (Below.refl wd.heap.size wd)
          refine wpAnyH_take (i := 0) (oi := ⟨some 59, _, _, _, _, _⟩) (v := ?_) rfl (by as_aux_lemma => kernel_rfl) (by as_aux_lemma => kernel_rfl) (by as_aux_lemma => kernel_rfl) (fun _ _ _ h => h) ?_ (by assumption) ?_; rotate_left; (focus (refine Or.inl ⟨rfl, ?_⟩; intro w hSw; (try dsimp only at hSw); go_simp; (try with_reducible rfl); done)); (try simp only [Act.put, List.setIfInBounds_toArray, List.set_cons_zero, List.set_cons_succ])
          refine wpAnyH_take (i := 1) (oi := ⟨some 60, _, _, _, _, _⟩) (v := ?_) rfl (by as_aux_lemma => kernel_rfl) (by as_aux_lemma => kernel_rfl) (by as_aux_lemma => kernel_rfl) (fun _ _ _ h => h) ?_ (by assumption) ?_; rotate_left; (focus (refine Or.inl ⟨rfl, ?_⟩; intro w hSw; (try dsimp only at hSw); go_simp; (try with_reducible rfl); done)); (try simp only [Act.put, List.setIfInBounds_toArray, List.set_cons_zero, List.set_cons_succ])
          refine wpAnyH_take (i := 2) (oi := ⟨some 61, _, _, _, _, _⟩) (v := ?_) rfl (by as_aux_lemma => kernel_rfl) (by as_aux_lemma => kernel_rfl) (by as_aux_lemma => kernel_rfl) (fun _ _ _ h => h) ?_ (by assumption) ?_; rotate_left; (focus (refine Or.inl ⟨rfl, ?_⟩; intro w hSw; (try dsimp only at hSw); go_simp; (try with_reducible rfl); done)); (try simp only [Act.put, List.setIfInBounds_toArray, List.set_cons_zero, List.set_cons_succ])
          refine wpAnyH_take (i := 3) (oi := ⟨some 62, _, _, _, _, _⟩) (v := ?_) rfl (by as_aux_lemma => kernel_rfl) (by as_aux_lemma => kernel_rfl) (by as_aux_lemma => kernel_rfl) (fun _ _ _ h => h) ?_ (by assumption) ?_; rotate_left; (focus (refine Or.inl ⟨rfl, ?_⟩; intro w hSw; (try dsimp only at hSw); go_simp; (try with_reducible rfl); done)); (try simp only [Act.put, List.setIfInBounds_toArray, List.set_cons_zero, List.set_cons_succ])
          refine wpAnyH_take (i := 4) (oi := ⟨some 63, _, _, _, _, _⟩) (v := ?_) rfl (by as_aux_lemma => kernel_rfl) (by as_aux_lemma => kernel_rfl) (by as_aux_lemma => kernel_rfl) (fun _ _ _ h => h) ?_ (by assumption) ?_; rotate_left; (focus (refine Or.inl ⟨rfl, ?_⟩; intro w hSw; (try dsimp only at hSw); go_simp; (try with_reducible rfl); done)); (try simp only [Act.put, List.setIfInBounds_toArray, List.set_cons_zero, List.set_cons_succ])
          refine wpAnyH_take (i := 5) (oi := ⟨some 64, _, _, _, _, _⟩) (v := ?_) rfl (by as_aux_lemma => kernel_rfl) (by as_aux_lemma => kernel_rfl) (by as_aux_lemma => kernel_rfl) (fun _ _ _ h => h) ?_ (by assumption) ?_; rotate_left; (focus (refine Or.inl ⟨rfl, ?_⟩; intro w hSw; (try dsimp only at hSw); go_simp; (try with_reducible rfl); done)); (try simp only [Act.put, List.setIfInBounds_toArray, List.set_cons_zero, List.set_cons_succ])
          refine wpAnyH_take (i := 6) (oi := ⟨some 65, _, _, _, _, _⟩) (v := ?_) rfl (by as_aux_lemma => kernel_rfl) (by as_aux_lemma => kernel_rfl) (by as_aux_lemma => kernel_rfl) (fun _ _ _ h => h) ?_ (by assumption) ?_; rotate_left; (focus (refine Or.inl ⟨rfl, ?_⟩; intro w hSw; (try dsimp only at hSw); go_simp; (try with_reducible rfl); done)); (try simp only [Act.put, List.setIfInBounds_toArray, List.set_cons_zero, List.set_cons_succ])
          refine wpAnyH_take (i := 7) (oi := ⟨some 66, _, _, _, _, _⟩) (v := ?_) rfl (by as_aux_lemma => kernel_rfl) (by as_aux_lemma => kernel_rfl) (by as_aux_lemma => kernel_rfl) (fun _ _ _ h => h) ?_ (by assumption) ?_; rotate_left; (focus (refine Or.inl ⟨rfl, ?_⟩; intro w hSw; (try dsimp only at hSw); go_simp; (try with_reducible rfl); done)); (try simp only [Act.put, List.setIfInBounds_toArray, List.set_cons_zero, List.set_cons_succ])
          refine wpAnyH_take (i := 8) (oi := ⟨some 67, _, _, _, _, _⟩) (v := ?_) rfl (by as_aux_lemma => kernel_rfl) (by as_aux_lemma => kernel_rfl) (by as_aux_lemma => kernel_rfl) (fun _ _ _ h => h) ?_ (by assumption) ?_; rotate_left; (focus (refine Or.inl ⟨rfl, ?_⟩; intro w hSw; (try dsimp only at hSw); go_simp; (try with_reducible rfl); done)); (try simp only [Act.put, List.setIfInBounds_toArray, List.set_cons_zero, List.set_cons_succ])
          refine wpAnyH_take (i := 10) (oi := ⟨some 69, _, _, _, _, _⟩) (v := ?_) rfl (by as_aux_lemma => kernel_rfl) (by as_aux_lemma => kernel_rfl) (by as_aux_lemma => kernel_rfl) (fun _ _ _ h => h) ?_ (by assumption) ?_; rotate_left; (focus (refine Or.inl ⟨rfl, ?_⟩; intro w hSw; (try dsimp only at hSw); go_simp; (try with_reducible rfl); done)); (try simp only [Act.put, List.setIfInBounds_toArray, List.set_cons_zero, List.set_cons_succ])
          refine wpAnyH_ready (rs := [9, 15]) (by kernel_rfl) (by simp) ?_
          refine AllReadyH.cons (o := ⟨some 68, _, _, _, _, _⟩) rfl (fun K hK => ?_) (AllReadyH.cons (o := ⟨some 14, _, _, _, _, _⟩) rfl (fun K hK => ?_) AllReadyH.nil)
          · go_simp
            have hb := below_alloc (Below.refl wd.heap.size wd) (.cells #[.string ⟨#[]⟩, .slice (some (adLA.add (i * 5))) 1 (4 - i), .string ⟨#[111, 114]⟩, .slice (some ⟨adLA.block, adLA.off + 15, none⟩) 1 1] 28)
            refine hK.out _ _ (KEEP.out _ (below_step HN.out hb)) (fun hHeld2 => ?_)
            have P20 := Lib.hid (row_lit kC 28 wd [⟨⟨#[]⟩, [aa]⟩, orK] [.string ⟨#[]⟩, .slice (some (adLA.add (i * 5))) 1 (4 - i), .string ⟨#[111, 114]⟩, .slice (some ⟨adLA.block, adLA.off + 15, none⟩) 1 1] (reps_cmd2 _ ⟨⟨#[]⟩, [aa]⟩ orK (Kd.C_below HA1.out HN.out) H14.out (Kd.C_below HA3.out HN.out) (Nat.le_refl _)) (by simp))
            have HN' := Lib.hid (below_step HN.out hb); clear HN; have HN := HN'; clear HN'
            clear hb; clear hK K hHeld; have hHeld := hHeld2; clear hHeld2; (try simp only [Act.put, List.setIfInBounds_toArray, List.set_cons_zero, List.set_cons_succ])
            generalize hwk : wd.alloc (.cells #[.string ⟨#[]⟩, .slice (some (adLA.add (i * 5))) 1 (4 - i), .string ⟨#[111, 114]⟩, .slice (some ⟨adLA.block, adLA.off + 15, none⟩) 1 1] 28) = wq1 at *; clear hwk
            have P2 := P20; clear P20
            refine wpAnyH_ready (rs := [11, 15]) (by kernel_rfl) (by simp) ?_
            refine AllReadyH.cons (o := ⟨some 70, _, _, _, _, _⟩) rfl (fun K hK => ?_) (AllReadyH.cons (o := ⟨some 14, _, _, _, _, _⟩) rfl (fun K hK => ?_) AllReadyH.nil)
            · go_simp
              go_at_call 7
              (with_reducible refine (CQ.out _ (HT2.out.below HN.out) _ P2.out).mono ?_)
              rintro en wq2 ⟨v4, v5, rfl, hk4, hk5, hb⟩
              obtain ⟨E, e4, rfl⟩ := Kd.R_slice hk4; obtain ⟨Fa, f4, rfl⟩ := Kd.R_slice hk5; have RK := Lib.hid (own_mk hk4 hk5); clear hk4 hk5
              refine hK.out _ _ (KEEP.out _ (below_step HN.out hb)) (fun hHeld2 => ?_)
              have P2' := Lib.hid (Kd.C_below P2.out hb)
              have HN' := Lib.hid (below_step HN.out hb)
              clear P2 HN; have HN := HN'; clear HN'; have P2 := P2'; clear P2'
              clear hb; clear hK K hHeld; have hHeld := hHeld2; clear hHeld2; (try simp only [Act.put, List.setIfInBounds_toArray, List.set_cons_zero, List.set_cons_succ])
              refine wpAnyH_take (i := 12) (oi := ⟨some 58, _, _, _, _, _⟩) (v := ?_) rfl (by as_aux_lemma => kernel_rfl) (by as_aux_lemma => kernel_rfl) (by as_aux_lemma => kernel_rfl) (fun _ _ _ h => h) ?_ (by assumption) ?_; rotate_left; (focus (refine Or.inl ⟨rfl, ?_⟩; intro w hSw; (try dsimp only at hSw); go_simp; (try with_reducible rfl); done)); (try simp only [Act.put, List.setIfInBounds_toArray, List.set_cons_zero, List.set_cons_succ])
              refine wpAnyH_take (i := 13) (oi := ⟨some 71, _, _, _, _, _⟩) (v := ?_) rfl (by as_aux_lemma => kernel_rfl) (by as_aux_lemma => kernel_rfl) (by as_aux_lemma => kernel_rfl) (fun _ _ _ h => h) ?_ (by assumption) ?_; rotate_left; (focus (refine Or.inl ⟨rfl, ?_⟩; intro w hSw; (try dsimp only at hSw); go_simp; (try with_reducible rfl); done)); (try simp only [Act.put, List.setIfInBounds_toArray, List.set_cons_zero, List.set_cons_succ])
              refine wpAnyH_take (i := 14) (oi := ⟨some 72, _, _, _, _, _⟩) (v := ?_) rfl (by as_aux_lemma => kernel_rfl) (by as_aux_lemma => kernel_rfl) (by as_aux_lemma => kernel_rfl) (fun _ _ _ h => h) ?_ (by assumption) ?_; rotate_left; (focus (refine Or.inl ⟨rfl, ?_⟩; intro w hSw; (try dsimp only at hSw); go_simp; (try with_reducible rfl); done)); (try simp only [Act.put, List.setIfInBounds_toArray, List.set_cons_zero, List.set_cons_succ])
              refine wpAnyH_ready (rs := [15]) (by kernel_rfl) (by simp) ?_
              refine AllReadyH.cons (o := ⟨some 14, _, _, _, _, _⟩) rfl (fun K hK => ?_) AllReadyH.nil
              go_simp
              have hb := below_alloc (Below.refl wq2.heap.size wq2) zeros
              refine hK.out _ _ (KEEP.out _ (below_step HN.out hb)) (fun hHeld2 => ?_)
              have B20 := Lib.hid (blk_new wq2 zeros)
              have GEB2 := Lib.hid (below_size HN.out)
              have BAB2 := Lib.hid hb
              have P2' := Lib.hid (Kd.C_below P2.out hb)
              have HN' := Lib.hid (below_step HN.out hb)
              clear P2 HN; have HN := HN'; clear HN'; have P2 := P2'; clear P2'
              clear hb; clear hK K hHeld; have hHeld := hHeld2; clear hHeld2; (try simp only [Act.put, List.setIfInBounds_toArray, List.set_cons_zero, List.set_cons_succ])
              (try clear HGK); generalize hgk : wq2.heap.size = gq3 at *; have HGK := Lib.hid hgk; clear hgk
              generalize hwk : wq2.alloc zeros = wq3 at *; clear hwk
              have B2 := B20; clear B20
              refine wpAnyH_ready (rs := [16]) (by kernel_rfl) (by simp) ?_
              refine AllReadyH.cons (o := ⟨none, _, _, _, _, _⟩) rfl (fun K hK => ?_) AllReadyH.nil
              have nz0 := (blk_cell B2.out 0).trans rfl; have fz0 := blk_frozen B2.out 0; have nz1 := (blk_cell B2.out 1).trans rfl; have fz1 := blk_frozen B2.out 1; have nz2 := (blk_cell B2.out 2).trans rfl; have fz2 := blk_frozen B2.out 2; have nz3 := (blk_cell B2.out 3).trans rfl; have fz3 := blk_frozen B2.out 3; have nz4 := (blk_cell B2.out 4).trans rfl; have fz4 := blk_frozen B2.out 4; have nz5 := (blk_cell B2.out 5).trans rfl; have fz5 := blk_frozen B2.out 5
              go_simp
              have HX := Lib.hid (row_put6 B2.out (.int .i64 x.f0) (.int .i64 x.f1) (.int .u64 x.f2) (.string x.f3) (.slice E x.f4.length e4) (.slice Fa x.f5.length f4))
              have HF := Lib.hid (row_below6 HN.out GEB2.out (.int .i64 x.f0) (.int .i64 x.f1) (.int .u64 x.f2) (.string x.f3) (.slice E x.f4.length e4) (.slice Fa x.f5.length f4))
              clear nz0 fz0 nz1 fz1 nz2 fz2 nz3 fz3 nz4 fz4 nz5 fz5
              have HRW := Lib.hid ((RK.out.same (SameFrom.of_new BAB2.out HGK.out (.int .i64 x.f0) (.int .i64 x.f1) (.int .u64 x.f2) (.string x.f3) (.slice E x.f4.length e4) (.slice Fa x.f5.length f4))).rows)
              refine hK.out _ _ (KEEP.out _ HF.out) (fun hHeld2 => ?_)
              clear hK K hHeld; have hHeld := hHeld2; clear hHeld2; (try simp only [Act.put, List.setIfInBounds_toArray, List.set_cons_zero, List.set_cons_succ])
              refine wpAnyH_take (i := 17) (oi := ⟨some 15, _, _, _, _, _⟩) (v := ?_) rfl (by as_aux_lemma => kernel_rfl) (by as_aux_lemma => kernel_rfl) (by as_aux_lemma => kernel_rfl) (fun _ _ _ h => h) ?_ (by assumption) ?_; rotate_left; (focus (refine Or.inl ⟨rfl, ?_⟩; intro w hSw; (try dsimp only at hSw); go_simp; (try with_reducible rfl); done)); (try simp only [Act.put, List.setIfInBounds_toArray, List.set_cons_zero, List.set_cons_succ])
              refine wpAnyH_done (by kernel_rfl) ?_ _
              go_wp2
              go_meet
              case rel =>
                exact ⟨_, _, _, _, _, rfl, rfl, ⟨HX.out⟩, ⟨HRW.out⟩, ⟨below_step HD.out HF.out⟩⟩
            · go_simp
              have hb := below_alloc (Below.refl wq1.heap.size wq1) zeros
              refine hK.out _ _ (KEEP.out _ (below_step HN.out hb)) (fun hHeld2 => ?_)
              have B20 := Lib.hid (blk_new wq1 zeros)
              have GEB2 := Lib.hid (below_size HN.out)
              have BAB2 := Lib.hid hb
              have P2' := Lib.hid (Kd.C_below P2.out hb)
              have HN' := Lib.hid (below_step HN.out hb)
              clear P2 HN; have HN := HN'; clear HN'; have P2 := P2'; clear P2'
              clear hb; clear hK K hHeld; have hHeld := hHeld2; clear hHeld2; (try simp only [Act.put, List.setIfInBounds_toArray, List.set_cons_zero, List.set_cons_succ])
              (try clear HGK); generalize hgk : wq1.heap.size = gq2 at *; have HGK := Lib.hid hgk; clear hgk
              generalize hwk : wq1.alloc zeros = wq2 at *; clear hwk
              have B2 := B20; clear B20
              refine wpAnyH_ready (rs := [11]) (by kernel_rfl) (by simp) ?_
              refine AllReadyH.cons (o := ⟨some 70, _, _, _, _, _⟩) rfl (fun K hK => ?_) AllReadyH.nil
              go_simp
              go_at_call 7
              (with_reducible refine (CQ.out _ (HT2.out.below HN.out) _ P2.out).mono ?_)
              rintro en wq3 ⟨v4, v5, rfl, hk4, hk5, hb⟩
              obtain ⟨E, e4, rfl⟩ := Kd.R_slice hk4; obtain ⟨Fa, f4, rfl⟩ := Kd.R_slice hk5; have RK := Lib.hid (own_mk hk4 hk5); clear hk4 hk5
              have GLB2 := Lib.hid (blk_lt B2.out)
              refine hK.out _ _ (KEEP.out _ (below_step HN.out hb)) (fun hHeld2 => ?_)
              have P2' := Lib.hid (Kd.C_below P2.out hb)
              have B2' := Lib.hid (blk_below B2.out hb)
              have HN' := Lib.hid (below_step HN.out hb)
              clear P2 B2 HN; have HN := HN'; clear HN'; have P2 := P2'; clear P2'; have B2 := B2'; clear B2'
              clear hb; clear hK K hHeld; have hHeld := hHeld2; clear hHeld2; (try simp only [Act.put, List.setIfInBounds_toArray, List.set_cons_zero, List.set_cons_succ])
              refine wpAnyH_take (i := 12) (oi := ⟨some 58, _, _, _, _, _⟩) (v := ?_) rfl (by as_aux_lemma => kernel_rfl) (by as_aux_lemma => kernel_rfl) (by as_aux_lemma => kernel_rfl) (fun _ _ _ h => h) ?_ (by assumption) ?_; rotate_left; (focus (refine Or.inl ⟨rfl, ?_⟩; intro w hSw; (try dsimp only at hSw); go_simp; (try with_reducible rfl); done)); (try simp only [Act.put, List.setIfInBounds_toArray, List.set_cons_zero, List.set_cons_succ])
              refine wpAnyH_take (i := 13) (oi := ⟨some 71, _, _, _, _, _⟩) (v := ?_) rfl (by as_aux_lemma => kernel_rfl) (by as_aux_lemma => kernel_rfl) (by as_aux_lemma => kernel_rfl) (fun _ _ _ h => h) ?_ (by assumption) ?_; rotate_left; (focus (refine Or.inl ⟨rfl, ?_⟩; intro w hSw; (try dsimp only at hSw); go_simp; (try with_reducible rfl); done)); (try simp only [Act.put, List.setIfInBounds_toArray, List.set_cons_zero, List.set_cons_succ])
              refine wpAnyH_take (i := 14) (oi := ⟨some 72, _, _, _, _, _⟩) (v := ?_) rfl (by as_aux_lemma => kernel_rfl) (by as_aux_lemma => kernel_rfl) (by as_aux_lemma => kernel_rfl) (fun _ _ _ h => h) ?_ (by assumption) ?_; rotate_left; (focus (refine Or.inl ⟨rfl, ?_⟩; intro w hSw; (try dsimp only at hSw); go_simp; (try with_reducible rfl); done)); (try simp only [Act.put, List.setIfInBounds_toArray, List.set_cons_zero, List.set_cons_succ])
              refine wpAnyH_ready (rs := [16]) (by kernel_rfl) (by simp) ?_
              refine AllReadyH.cons (o := ⟨none, _, _, _, _, _⟩) rfl (fun K hK => ?_) AllReadyH.nil
              have nz0 := (blk_cell B2.out 0).trans rfl; have fz0 := blk_frozen B2.out 0; have nz1 := (blk_cell B2.out 1).trans rfl; have fz1 := blk_frozen B2.out 1; have nz2 := (blk_cell B2.out 2).trans rfl; have fz2 := blk_frozen B2.out 2; have nz3 := (blk_cell B2.out 3).trans rfl; have fz3 := blk_frozen B2.out 3; have nz4 := (blk_cell B2.out 4).trans rfl; have fz4 := blk_frozen B2.out 4; have nz5 := (blk_cell B2.out 5).trans rfl; have fz5 := blk_frozen B2.out 5
              go_simp
              have HX := Lib.hid (row_put6 B2.out (.int .i64 x.f0) (.int .i64 x.f1) (.int .u64 x.f2) (.string x.f3) (.slice E x.f4.length e4) (.slice Fa x.f5.length f4))
              have HF := Lib.hid (row_below6 HN.out GEB2.out (.int .i64 x.f0) (.int .i64 x.f1) (.int .u64 x.f2) (.string x.f3) (.slice E x.f4.length e4) (.slice Fa x.f5.length f4))
              clear nz0 fz0 nz1 fz1 nz2 fz2 nz3 fz3 nz4 fz4 nz5 fz5
              have HRW := Lib.hid ((RK.out.same (same_six GLB2.out (.int .i64 x.f0) (.int .i64 x.f1) (.int .u64 x.f2) (.string x.f3) (.slice E x.f4.length e4) (.slice Fa x.f5.length f4))).rows)
              refine hK.out _ _ (KEEP.out _ HF.out) (fun hHeld2 => ?_)
              clear hK K hHeld; have hHeld := hHeld2; clear hHeld2; (try simp only [Act.put, List.setIfInBounds_toArray, List.set_cons_zero, List.set_cons_succ])
              refine wpAnyH_take (i := 17) (oi := ⟨some 15, _, _, _, _, _⟩) (v := ?_) rfl (by as_aux_lemma => kernel_rfl) (by as_aux_lemma => kernel_rfl) (by as_aux_lemma => kernel_rfl) (fun _ _ _ h => h) ?_ (by assumption) ?_; rotate_left; (focus (refine Or.inl ⟨rfl, ?_⟩; intro w hSw; (try dsimp only at hSw); go_simp; (try with_reducible rfl); done)); (try simp only [Act.put, List.setIfInBounds_toArray, List.set_cons_zero, List.set_cons_succ])
              refine wpAnyH_done (by kernel_rfl) ?_ _
              go_wp2
              go_meet
              case rel =>
                exact ⟨_, _, _, _, _, rfl, rfl, ⟨HX.out⟩, ⟨HRW.out⟩, ⟨below_step HD.out HF.out⟩⟩
          · go_simp
            have hb := below_alloc (Below.refl wd.heap.size wd) zeros
            refine hK.out _ _ (KEEP.out _ (below_step HN.out hb)) (fun hHeld2 => ?_)
            have B20 := Lib.hid (blk_new wd zeros)
            have GEB2 := Lib.hid (below_size HN.out)
            have BAB2 := Lib.hid hb
            have HN' := Lib.hid (below_step HN.out hb); clear HN; have HN := HN'; clear HN'
            clear hb; clear hK K hHeld; have hHeld := hHeld2; clear hHeld2; (try simp only [Act.put, List.setIfInBounds_toArray, List.set_cons_zero, List.set_cons_succ])
            generalize hwk : wd.alloc zeros = wq1 at *; clear hwk
            have B2 := B20; clear B20
            refine wpAnyH_ready (rs := [9]) (by kernel_rfl) (by simp) ?_
            refine AllReadyH.cons (o := ⟨some 68, _, _, _, _, _⟩) rfl (fun K hK => ?_) AllReadyH.nil
            go_simp
            have hb := below_alloc (Below.refl wq1.heap.size wq1) (.cells #[.string ⟨#[]⟩, .slice (some (adLA.add (i * 5))) 1 (4 - i), .string ⟨#[111, 114]⟩, .slice (some ⟨adLA.block, adLA.off + 15, none⟩) 1 1] 28)
            refine hK.out _ _ (KEEP.out _ (below_step HN.out hb)) (fun hHeld2 => ?_)
            have P20 := Lib.hid (row_lit kC 28 wq1 [⟨⟨#[]⟩, [aa]⟩, orK] [.string ⟨#[]⟩, .slice (some (adLA.add (i * 5))) 1 (4 - i), .string ⟨#[111, 114]⟩, .slice (some ⟨adLA.block, adLA.off + 15, none⟩) 1 1] (reps_cmd2 _ ⟨⟨#[]⟩, [aa]⟩ orK (Kd.C_below HA1.out HN.out) H14.out (Kd.C_below HA3.out HN.out) (Nat.le_refl _)) (by simp))
            have B2' := Lib.hid (blk_below B2.out hb)
            have HN' := Lib.hid (below_step HN.out hb)
            clear B2 HN; have HN := HN'; clear HN'; have B2 := B2'; clear B2'
            clear hb; clear hK K hHeld; have hHeld := hHeld2; clear hHeld2; (try simp only [Act.put, List.setIfInBounds_toArray, List.set_cons_zero, List.set_cons_succ])
            (try clear HGK); generalize hgk : wq1.heap.size = gq2 at *; have HGK := Lib.hid hgk; clear hgk
            generalize hwk : wq1.alloc (.cells #[.string ⟨#[]⟩, .slice (some (adLA.add (i * 5))) 1 (4 - i), .string ⟨#[111, 114]⟩, .slice (some ⟨adLA.block, adLA.off + 15, none⟩) 1 1] 28) = wq2 at *; clear hwk
            have P2 := P20; clear P20
            refine wpAnyH_ready (rs := [11]) (by kernel_rfl) (by simp) ?_
            refine AllReadyH.cons (o := ⟨some 70, _, _, _, _, _⟩) rfl (fun K hK => ?_) AllReadyH.nil
            go_simp
            go_at_call 7
            (with_reducible refine (CQ.out _ (HT2.out.below HN.out) _ P2.out).mono ?_)
            rintro en wq3 ⟨v4, v5, rfl, hk4, hk5, hb⟩
            obtain ⟨E, e4, rfl⟩ := Kd.R_slice hk4; obtain ⟨Fa, f4, rfl⟩ := Kd.R_slice hk5; have RK := Lib.hid (own_mk hk4 hk5); clear hk4 hk5
            have GLB2 := Lib.hid (blk_lt B2.out)
            refine hK.out _ _ (KEEP.out _ (below_step HN.out hb)) (fun hHeld2 => ?_)
            have B2' := Lib.hid (blk_below B2.out hb)
            have P2' := Lib.hid (Kd.C_below P2.out hb)
            have HN' := Lib.hid (below_step HN.out hb)
            clear B2 P2 HN; have HN := HN'; clear HN'; have B2 := B2'; clear B2'; have P2 := P2'; clear P2'
            clear hb; clear hK K hHeld; have hHeld := hHeld2; clear hHeld2; (try simp only [Act.put, List.setIfInBounds_toArray, List.set_cons_zero, List.set_cons_succ])
            refine wpAnyH_take (i := 12) (oi := ⟨some 58, _, _, _, _, _⟩) (v := ?_) rfl (by as_aux_lemma => kernel_rfl) (by as_aux_lemma => kernel_rfl) (by as_aux_lemma => kernel_rfl) (fun _ _ _ h => h) ?_ (by assumption) ?_; rotate_left; (focus (refine Or.inl ⟨rfl, ?_⟩; intro w hSw; (try dsimp only at hSw); go_simp; (try with_reducible rfl); done)); (try simp only [Act.put, List.setIfInBounds_toArray, List.set_cons_zero, List.set_cons_succ])
            refine wpAnyH_take (i := 13) (oi := ⟨some 71, _, _, _, _, _⟩) (v := ?_) rfl (by as_aux_lemma => kernel_rfl) (by as_aux_lemma => kernel_rfl) (by as_aux_lemma => kernel_rfl) (fun _ _ _ h => h) ?_ (by assumption) ?_; rotate_left; (focus (refine Or.inl ⟨rfl, ?_⟩; intro w hSw; (try dsimp only at hSw); go_simp; (try with_reducible rfl); done)); (try simp only [Act.put, List.setIfInBounds_toArray, List.set_cons_zero, List.set_cons_succ])
            refine wpAnyH_take (i := 14) (oi := ⟨some 72, _, _, _, _, _⟩) (v := ?_) rfl (by as_aux_lemma => kernel_rfl) (by as_aux_lemma => kernel_rfl) (by as_aux_lemma => kernel_rfl) (fun _ _ _ h => h) ?_ (by assumption) ?_; rotate_left; (focus (refine Or.inl ⟨rfl, ?_⟩; intro w hSw; (try dsimp only at hSw); go_simp; (try with_reducible rfl); done)); (try simp only [Act.put, List.setIfInBounds_toArray, List.set_cons_zero, List.set_cons_succ])
            refine wpAnyH_ready (rs := [16]) (by kernel_rfl) (by simp) ?_
            refine AllReadyH.cons (o := ⟨none, _, _, _, _, _⟩) rfl (fun K hK => ?_) AllReadyH.nil
            have nz0 := (blk_cell B2.out 0).trans rfl; have fz0 := blk_frozen B2.out 0; have nz1 := (blk_cell B2.out 1).trans rfl; have fz1 := blk_frozen B2.out 1; have nz2 := (blk_cell B2.out 2).trans rfl; have fz2 := blk_frozen B2.out 2; have nz3 := (blk_cell B2.out 3).trans rfl; have fz3 := blk_frozen B2.out 3; have nz4 := (blk_cell B2.out 4).trans rfl; have fz4 := blk_frozen B2.out 4; have nz5 := (blk_cell B2.out 5).trans rfl; have fz5 := blk_frozen B2.out 5
            go_simp
            have HX := Lib.hid (row_put6 B2.out (.int .i64 x.f0) (.int .i64 x.f1) (.int .u64 x.f2) (.string x.f3) (.slice E x.f4.length e4) (.slice Fa x.f5.length f4))
            have HF := Lib.hid (row_below6 HN.out GEB2.out (.int .i64 x.f0) (.int .i64 x.f1) (.int .u64 x.f2) (.string x.f3) (.slice E x.f4.length e4) (.slice Fa x.f5.length f4))
            clear nz0 fz0 nz1 fz1 nz2 fz2 nz3 fz3 nz4 fz4 nz5 fz5
            have HRW := Lib.hid ((RK.out.same (same_six GLB2.out (.int .i64 x.f0) (.int .i64 x.f1) (.int .u64 x.f2) (.string x.f3) (.slice E x.f4.length e4) (.slice Fa x.f5.length f4))).rows)
            refine hK.out _ _ (KEEP.out _ HF.out) (fun hHeld2 => ?_)
            clear hK K hHeld; have hHeld := hHeld2; clear hHeld2; (try simp only [Act.put, List.setIfInBounds_toArray, List.set_cons_zero, List.set_cons_succ])
            refine wpAnyH_take (i := 17) (oi := ⟨some 15, _, _, _, _, _⟩) (v := ?_) rfl (by as_aux_lemma => kernel_rfl) (by as_aux_lemma => kernel_rfl) (by as_aux_lemma => kernel_rfl) (fun _ _ _ h => h) ?_ (by assumption) ?_; rotate_left; (focus (refine Or.inl ⟨rfl, ?_⟩; intro w hSw; (try dsimp only at hSw); go_simp; (try with_reducible rfl); done)); (try simp only [Act.put, List.setIfInBounds_toArray, List.set_cons_zero, List.set_cons_succ])
            refine wpAnyH_done (by kernel_rfl) ?_ _
            go_wp2
            go_meet
            case rel =>
              exact ⟨_, _, _, _, _, rfl, rfl, ⟨HX.out⟩, ⟨HRW.out⟩, ⟨below_step HD.out HF.out⟩⟩
        case rest =>
          obtain ⟨g2, E, e4, Fa, f4, rfl, rfl, HX20, HR20, HBC0⟩ := hcut
          have HX2 := Lib.hid HX20.out; have HR2 := Lib.hid HR20.out; have HBC := Lib.hid HBC0.out; clear HX20 HR20 HBC0
          have hbd := below_drew HBC.out
          have B1D := Lib.hid (blk_below B1.out hbd); have R1D := Lib.hid (R1.out.below hbd); have X2D := Lib.hid (blk_drew HX2.out); have R2D := Lib.hid (HR2.out.below (below_drew (Below.refl _ _)))
          have HWD := Lib.hid (HW.out.below (below_step HBR.out (below_step HN2.out hbd))); have HATD := Lib.hid (HAT.out.below (below_step HBR.out (below_step HN2.out hbd)))
          have HBD := Lib.hid (below_step HBR.out (below_step HN2.out hbd))
          clear hbd B1 R1 HX2 HR2 HBC HW HAT HA1 HA3 CP1 CQ
          have SV1 := Lib.hid (fun W (hb : Below wc.drew.heap.size wc.drew W) => sv_same x E1 e1 F1 f1 E4 e4w E5 e5w W (R1D.out.below hb) (HWD.out.below hb))
          have SV2 := Lib.hid (fun W (hb : Below wc.drew.heap.size wc.drew W) => sv_same x E e4 Fa f4 E4 e4w E5 e5w W (R2D.out.below hb) (HWD.out.below hb))
          go_upto_region 16 with (fail)
          have KEEP : ∀ w', Below wc.drew.heap.size wc.drew w' → (Below wc.drew.heap.size wc.drew w' ∧ w'.cell? ⟨gb1, 0, none⟩ = some (.int .i64 x.f0) ∧ w'.cell? ⟨gb1, 1, none⟩ = some (.int .i64 x.f1) ∧ w'.cell? ⟨gb1, 2, none⟩ = some (.int .u64 x.f2) ∧ w'.cell? ⟨gb1, 3, none⟩ = some (.string x.f3) ∧ w'.cell? ⟨gb1, 4, none⟩ = some (.slice E1 x.f4.length e1) ∧ w'.cell? ⟨gb1, 5, none⟩ = some (.slice F1 x.f5.length f1) ∧ w'.cell? ⟨g2, 0, none⟩ = some (.int .i64 x.f0) ∧ w'.cell? ⟨g2, 1, none⟩ = some (.int .i64 x.f1) ∧ w'.cell? ⟨g2, 2, none⟩ = some (.int .u64 x.f2) ∧ w'.cell? ⟨g2, 3, none⟩ = some (.string x.f3) ∧ w'.cell? ⟨g2, 4, none⟩ = some (.slice E x.f4.length e4) ∧ w'.cell? ⟨g2, 5, none⟩ = some (.slice Fa x.f5.length f4) ∧ w'.cell? (adLW.add (i * 6)) = some (.int .i64 x.f0) ∧ w'.cell? ⟨(adLW.add (i * 6)).block, (adLW.add (i * 6)).off + 1, none⟩ = some (.int .i64 x.f1) ∧ w'.cell? ⟨(adLW.add (i * 6)).block, (adLW.add (i * 6)).off + 2, none⟩ = some (.int .u64 x.f2) ∧ w'.cell? ⟨(adLW.add (i * 6)).block, (adLW.add (i * 6)).off + 3, none⟩ = some (.string x.f3) ∧ w'.cell? ⟨(adLW.add (i * 6)).block, (adLW.add (i * 6)).off + 4, none⟩ = some (.slice E4 x.f4.length e4w) ∧ w'.cell? ⟨(adLW.add (i * 6)).block, (adLW.add (i * 6)).off + 5, none⟩ = some (.slice E5 x.f5.length e5w)) := fun w' h => ⟨h, (At.of_box (blk_below B1D.out h)).g0, (At.of_box (blk_below B1D.out h)).g1, (At.of_box (blk_below B1D.out h)).g2, (At.of_box (blk_below B1D.out h)).g3, (At.of_box (blk_below B1D.out h)).g4, (At.of_box (blk_below B1D.out h)).g5, (At.of_box (blk_below X2D.out h)).g0, (At.of_box (blk_below X2D.out h)).g1, (At.of_box (blk_below X2D.out h)).g2, (At.of_box (blk_below X2D.out h)).g3, (At.of_box (blk_below X2D.out h)).g4, (At.of_box (blk_below X2D.out h)).g5, (HATD.out.below h).g0, (HATD.out.below h).g1, (HATD.out.below h).g2, (HATD.out.below h).g3, (HATD.out.below h).g4, (HATD.out.below h).g5⟩
          go_region_held3 (fun w' => Below wc.drew.heap.size wc.drew w' ∧ w'.cell? ⟨gb1, 0, none⟩ = some (.int .i64 x.f0) ∧ w'.cell? ⟨gb1, 1, none⟩ = some (.int .i64 x.f1) ∧ w'.cell? ⟨gb1, 2, none⟩ = some (.int .u64 x.f2) ∧ w'.cell? ⟨gb1, 3, none⟩ = some (.string x.f3) ∧ w'.cell? ⟨gb1, 4, none⟩ = some (.slice E1 x.f4.length e1) ∧ w'.cell? ⟨gb1, 5, none⟩ = some (.slice F1 x.f5.length f1) ∧ w'.cell? ⟨g2, 0, none⟩ = some (.int .i64 x.f0) ∧ w'.cell? ⟨g2, 1, none⟩ = some (.int .i64 x.f1) ∧ w'.cell? ⟨g2, 2, none⟩ = some (.int .u64 x.f2) ∧ w'.cell? ⟨g2, 3, none⟩ = some (.string x.f3) ∧ w'.cell? ⟨g2, 4, none⟩ = some (.slice E x.f4.length e4) ∧ w'.cell? ⟨g2, 5, none⟩ = some (.slice Fa x.f5.length f4) ∧ w'.cell? (adLW.add (i * 6)) = some (.int .i64 x.f0) ∧ w'.cell? ⟨(adLW.add (i * 6)).block, (adLW.add (i * 6)).off + 1, none⟩ = some (.int .i64 x.f1) ∧ w'.cell? ⟨(adLW.add (i * 6)).block, (adLW.add (i * 6)).off + 2, none⟩ = some (.int .u64 x.f2) ∧ w'.cell? ⟨(adLW.add (i * 6)).block, (adLW.add (i * 6)).off + 3, none⟩ = some (.string x.f3) ∧ w'.cell? ⟨(adLW.add (i * 6)).block, (adLW.add (i * 6)).off + 4, none⟩ = some (.slice E4 x.f4.length e4w) ∧ w'.cell? ⟨(adLW.add (i * 6)).block, (adLW.add (i * 6)).off + 5, none⟩ = some (.slice E5 x.f5.length e5w)) (first | exact KEEP _ (Below.refl _ _) | exact KEEP _ (below_step (by first | assumption | exact And.left (by assumption) | exact Below.refl _ _) hb) | assumption) (first | (go_at_call 8; (with_reducible refine (numB 0 _).mono ?_); rintro en wn ⟨rfl, hb⟩) | (go_at_call 9; (with_reducible refine (SV1.out _ (by first | assumption | exact And.left (by assumption) | exact Below.refl _ _)).mono ?_); rintro en wn ⟨rfl, hb⟩) | (go_at_call 9; (with_reducible refine (SV2.out _ (by first | assumption | exact And.left (by assumption) | exact Below.refl _ _)).mono ?_); rintro en wn ⟨rfl, hb⟩))
          all_goals
            (try go_wp2)
            go_roundg k2
            case measure => omega
            case rel => exact ⟨i + 1, by simp, ⟨by have := HI.out; omega⟩, ⟨below_step HBD.out (by first | assumption | exact And.left (by assumption) | exact Below.refl _ _)⟩⟩
end Go.Proofs.YtdghnfmhcnlppaaDoor.Eval
