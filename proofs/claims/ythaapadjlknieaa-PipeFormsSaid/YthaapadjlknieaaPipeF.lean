/- Package pipe, walked: Parse. -/
import Derived.Test.YthaapadjlknieaaPipeE
namespace Go.Proofs.Ythaapadjlknieaa.Pipe
open Go.RowKit Go.Proofs.Ythaapadjlknieaa.Q Go.Proofs.YthaapadjlknieaaW.PrintWords Go.Proofs.YthaapadjlknieaaW.PrintLast Go.Proofs.YthaapadjlknieaaW.PrintMore
set_option linter.unusedSimpArgs false
set_option linter.unusedVariables false

/-- What Parse answers. -/
def ParseAns (w : World) (R : List Cm × Int) (e : Ending) (w' : World) : Prop := ∃ v, e = .returned (.tuple #[v, .int .i64 R.2]) ∧ kC.R 38 w' w.heap.size (fun _ => True) v R.1 ∧ Below w.heap.size w w'
theorem parse_nil {w w' : World} {c : Int} (hb : Below w.heap.size w w') : ParseAns w ([], c) (.returned (.tuple #[.slice none 0 0, .int .i64 c])) w' :=
  ⟨_, rfl, Kd.R_nil _ _ _ _ _, hb⟩
theorem cmd_some {s : List Wd} {r : List (List Wd)} {out : List Cm} {many : Bool} {c : Cm} (h : cmdP s out.isEmpty = some c) : finL cmdP (s :: r) out many = finL cmdP r (out ++ [c]) (many || decide (8 < c.f1.length)) := by
  conv => lhs; unfold finL
  rw [h]
theorem cmd_none {s : List Wd} {r : List (List Wd)} {out : List Cm} {many : Bool} (h : cmdP s out.isEmpty = none) : finL cmdP (s :: r) out many = ([], 1500) := by
  unfold finL
  rw [h]
theorem word_path {x : Wd} (h : wordB x = true) : x.f2.length ≤ 8388608 := by
  unfold wordB pathB at h
  simp only [Bool.and_eq_true, decide_eq_true_eq] at h
  omega
theorem segs_len (p : Wd → Bool) : ∀ l, (segs p l).length ≤ l.length + 1
  | [] => by unfold segs; simp
  | x :: l => by
    have := segs_len p l
    have h0 := List.length_pos_iff.2 (segs_ne p l)
    unfold segs
    split
    · simp; omega
    · simp; omega
theorem empty_len {out : List Cm} : (out.length == 0) = out.isEmpty := by cases out <;> rfl
theorem empty_int {out : List Cm} : ((out.length : Int) == 0) = out.isEmpty := by
  cases out with
  | nil => rfl
  | cons x xs => exact beq_eq_false_iff_ne.2 (by simp; omega)
theorem cmd_args {s : List Wd} {b : Bool} {c : Cm} (h : cmdP s b = some c) : c.f1.length ≤ s.length := by
  unfold cmdP at h
  split at h
  · obtain ⟨l, hl, rfl⟩ := Option.map_eq_some_iff.1 h
    have := argsP_len hl
    simp at this ⊢
    omega
  · split at h
    · obtain ⟨l, hl, rfl⟩ := Option.map_eq_some_iff.1 h
      have := argsP_len hl
      simp at this ⊢
      omega
    · cases h

set_option maxHeartbeats 16000000 in
set_option maxRecDepth 100000 in
theorem Parse_calls (A : Option Addr) (c : Nat) (l : List Wd) (w : World) (hA : Kd.C kW w A l.length l) (hc : l.length ≤ c) (hl : l.length ≤ 1048576) :
    Calls Try.prog 7 #[.slice A l.length c] w (ParseAns w (parseR l)) := by
  have HA := Lib.hid hA; have HC := Lib.hid hc; have HL := Lib.hid hl
  clear hA hc hl
  obtain ⟨R, hR⟩ : ∃ R, parseR l = R := ⟨_, rfl⟩
  rw [hR]
  obtain ⟨n, hn⟩ : ∃ n, l.length = n := ⟨_, rfl⟩
  have HN := Lib.hid hn
  have HR := Lib.hid hR
  rw [hn]
  clear hn hR
  go_enter Try.func7, Try.ntmps7
  go_wp2
  go_loopg [13] n (fun kq v13 wr => ∃ (i nw : Nat), v13 = .int .i64 (i : Int) ∧ wr = w.drewN nw ∧ Aside0 (i + kq = n) ∧ Aside0 ((l.drop i).all wordB = l.all wordB))
  case atStart => exact ⟨0, 0, rfl, rfl, ⟨by omega⟩, ⟨rfl⟩⟩
  case round =>
    obtain ⟨i, nw, rfl, rfl, HI, HM⟩ := hrel
    have hi := HI.out
    cases gk with
    | succ k2 =>
      have hlt : decide (i < n) = true := decide_eq_true (by omega)
      have hltn := eq_true (show i < n by omega)
      have hlt' : (i : Int) < (l.length : Int) := by have := HN.out; omega
      have hi0 : (0 : Int) ≤ (i : Int) := by omega
      obtain ⟨ad, E2, e2, rfl, hAt, hk2⟩ := AtW.of_elem HA.out (i : Int) hi0 hlt'
      have ti : (i : Int).toNat = i := by omega
      rw [ti] at hAt
      have wi' : IntKind.i64.wrap ((i : Int) + 1) = (i : Int) + 1 := by rw [i64_w]; exact wrap_small _ (by have := HL.out; have := HN.out; omega) (by have := HL.out; have := HN.out; omega)
      have hstep := rd_W l i (by omega)
      have hM := HM.out
      rw [hstep, List.all_cons] at hM
      generalize rd_T45 l (i : Int) = x at *
      have CW := Lib.hid (wordMay_calls (ad.add (i * 4)) x E2 e2 (w.drewN nw) (hAt.below (pw_below_drewN (Below.refl _ _) nw)) (Kd.C_drewN hk2 nw))
      clear hAt hk2 hstep HM hlt' hi0
      cases hx : wordB x with
      | false =>
        rw [hx] at CW hM
        have hbad : R = ([], 1500) := by rw [← HR.out]; unfold parseR; rw [← hM, Bool.false_and, if_neg (by decide)]
        subst hbad
        clear hM hx
        go_wp2_with (go_at_call 16; refine CW.out.mono ?_; rintro e w' ⟨rfl, ⟨nd, rfl⟩⟩)
        go_ret2
        exact parse_nil (by first | exact pw_below_drewN (Below.refl _ _) _ | exact pw_below_drewN (pw_below_drewN (Below.refl _ _) _) _)
      | true =>
        rw [hx, Bool.true_and] at hM
        rw [hx] at CW
        have HM2 := Aside0.mk hM
        clear hM hx hi
        go_wp2_with (go_at_call 16; refine CW.out.mono ?_; rintro e w' ⟨rfl, ⟨nd, rfl⟩⟩)
        go_roundg k2
        case measure => omega
        case rel => exact ⟨i + 1, _, by simp, rfl, ⟨by have := HI.out; omega⟩, HM2⟩
    | zero =>
      have hlt : decide (i < n) = false := decide_eq_false (by omega)
      have hM := HM.out
      rw [List.drop_of_length_le (by have := HN.out; omega)] at hM
      have HW := Lib.hid (List.all_eq_true.1 hM.symm)
      have hRf : finL cmdP (segs barB l) [] false = R := by rw [← HR.out]; unfold parseR; rw [← hM, if_pos (by rfl)]
      have HF := Aside0.mk hRf
      have SL := Lib.hid (segs_len barB l)
      clear hM hRf hi HM HI
      have A1 := Aside0.mk (pw_below_drewN (Below.refl w.heap.size w) nw)
      have A2 := Aside0.mk (show Kd.C kW w A n l by have h := HA.out; rw [HN.out] at h; exact h)
      have A3 := Aside0.mk (show n ≤ c by have h := HC.out; rw [HN.out] at h; exact h)
      generalize hws : w.drewN nw = ws at *
      clear hws
      go_wp2
      go_loopg [0, 5, 6, 7] (segs barB l).length (fun kq v0 v5 v6 v7 wr => ∃ (B : Option Addr) (l1 : List Wd) (n1 c1 : Nat) (out : List Cm) (Bu : Option Addr) (cu : Nat) (many more : Bool), v0 = .slice B n1 c1 ∧ v5 = .slice Bu out.length cu ∧ v6 = .bool many ∧ v7 = .bool more ∧ Aside0 (Kd.C kW w B n1 l1) ∧ Aside0 (n1 ≤ c1) ∧ Aside0 (l1.length = n1) ∧ Aside0 (∀ x ∈ l1, x ∈ l) ∧ Aside0 (n1 ≤ n) ∧ Aside0 (kq = if more = true then (segs barB l1).length else 0) ∧ Aside0 (finL cmdP (if more = true then segs barB l1 else []) out many = R) ∧ Aside0 (out.length + kq ≤ n + 1) ∧ Aside0 (kC.R 38 wr w.heap.size (fun _ => True) (.slice Bu out.length cu) out) ∧ Aside0 (Below w.heap.size w wr))
      case atStart => exact ⟨A, l, n, c, [], none, 0, false, true, rfl, rfl, rfl, rfl, A2, A3, ⟨HN.out⟩, ⟨fun _ h => h⟩, ⟨Nat.le_refl _⟩, ⟨rfl⟩, HF, ⟨by have := SL.out; have := HN.out; simp; omega⟩, ⟨Kd.R_nil _ _ _ _ _⟩, A1⟩
      case round =>
        clear A1 A2 A3 HF
        obtain ⟨B, l1, n1, c1, out, Bu, cu, many, more, rfl, rfl, rfl, rfl, HA1, HC1, HN1, HS1, HL1, HK, HF, HO1, HO, HB⟩ := hrel
        cases more with
        | false =>
          have hF := HF.out
          rw [if_neg (by decide)] at hF
          have e8 : finL cmdP [] out many = if (many || decide (8 < out.length)) = true then ([], 1501) else (out, 0) := rfl
          rw [e8] at hF
          clear HA1 HC1 HN1 HS1 HL1 HK HF HO1 e8
          cases many with
          | true =>
            rw [Bool.true_or, if_pos rfl] at hF
            subst hF
            go_wp2
            go_ret2
            exact parse_nil HB.out
          | false =>
            by_cases h8 : 8 < out.length
            · have d8 : decide (8 < out.length) = true := decide_eq_true h8
              have d8' : decide ((8 : Int) < (out.length : Int)) = true := decide_eq_true (by omega)
              rw [d8, if_pos (by rfl)] at hF
              subst hF
              clear h8
              go_wp2
              go_ret2
              exact parse_nil HB.out
            · have d8 : decide (8 < out.length) = false := decide_eq_false h8
              have d8' : decide ((8 : Int) < (out.length : Int)) = false := decide_eq_false (by omega)
              rw [d8, if_neg (by decide)] at hF
              subst hF
              clear h8
              go_wp2
              go_ret2
              exact ⟨_, rfl, HO.out, HB.out⟩
        | true =>
          cases gk with
          | zero =>
            exfalso
            have h := HK.out
            rw [if_pos rfl] at h
            exact segs_ne barB l1 (List.eq_nil_of_length_eq_zero h.symm)
          | succ k2 =>
            have CC := Lib.hid (by have h := cut_calls B c1 l1 w wr HB.out (by rw [HN1.out]; exact HA1.out) (by rw [HN1.out]; exact HC1.out) (by have := HN1.out; have := HL1.out; have := HL.out; have := HN.out; omega); rw [HN1.out] at h; exact h : Calls Try.prog 17 #[.slice B n1 c1] wr (CutAns w wr l1))
            go_upto_region 13 with (first | (go_at_call 17; refine CC.out.mono ?_; rintro e w5 ⟨A1, la, ca, A2, lb, cb, more2, rfl, hA1, hc1, hA2, hc2, hseg, hm1, hm2, hl1, hl2, hb5⟩; have HA2 := Aside0.mk hA2; have HC2 := Aside0.mk hc2; have SG := Lib.hid hseg; have M1 := Lib.hid hm1; have M2 := Lib.hid hm2; have L1 := Lib.hid hl1; have L2 := Lib.hid hl2; have CA1 := Lib.hid hA1; have CC1 := Lib.hid hc1; have HB5 := Lib.hid (below_step HB.out hb5); have HO5 := Lib.hid (Kd.R_below HO.out hb5); have SZW := Lib.hid (below_size hb5); clear hA1 hc1 hA2 hc2 hseg hm1 hm2 hl1 hl2 hb5))
            have SZ5 := Lib.hid (below_size HB5.out)
            have CD := Lib.hid (fun b W (hb : Below w5.heap.size w5 W) => cmd_calls A1 ca la b W (Kd.C_below CA1.out (below_step HB5.out hb)) CC1.out (by have := L1.out; have := HN1.out; have := HL1.out; have := HL.out; have := HN.out; omega) (fun x hx => word_path (HW.out x (HS1.out x (M1.out x hx)))))
            have e1 := empty_len (out := out)
            have e2 := empty_int (out := out)
            have e3 : decide (out.length = 0) = out.isEmpty := by rw [← e1]; rfl
            have hF : finL cmdP (segs barB l1) out many = R := (by have h := HF.out; first | (rw [if_pos trivial] at h; exact h) | (rw [if_pos rfl] at h; exact h))
            rw [SG.out] at hF
            generalize hbo : out.isEmpty = bo at *
            have CD' := Lib.hid (CD.out bo)
            clear CD
            have CD := CD'
            clear CD'
            cases hcm : cmdP la bo with
            | none =>
              have ec : cmdF la bo = (⟨⟨#[]⟩, []⟩, false) := by unfold cmdF; rw [hcm]
              rw [cmd_none (by rw [hbo]; exact hcm)] at hF
              subst hF
              have CD' := Lib.hid (fun W hb => by have h := CD.out W hb; rw [ec] at h; exact h : ∀ W (hb : Below w5.heap.size w5 W), Calls Try.prog 18 #[.slice A1 la.length ca, .bool bo] W (CmdAns W ⟨⟨#[]⟩, []⟩ false))
              clear CD ec hcm hbo
              go_wp2_with (first | (go_at_call 18; refine (CD'.out _ (Below.refl _ _)).mono ?_; rintro e w6 ⟨v1, rfl, hr6, hb6⟩; obtain ⟨V, cv, rfl⟩ := Kd.R_slice hr6; have HB6 := Lib.hid (below_alloc (below_step HB5.out hb6) zerosC); have BN := Lib.hid (blk_new w6 zerosC); have LE := Lib.hid (below_size (below_step HB5.out hb6)); clear hr6 hb6) | ((with_reducible refine gate_store (t := 38) (p := 9) rfl ?_); refine row_event (by rfl) (by rfl) (by rfl) (by rfl) (by rfl) BN.out (by exact sizeC) (by rfl) (by first | rfl | simp [Value.oneCell']) ?_; intro w7 hz7 ho7 hb7; have HB7 := Lib.hid (hb7 LE.out HB6.out); clear hb7 ho7 hz7))
              go_ret2
              exact parse_nil HB7.out
            | some cm =>
              have ec : cmdF la bo = (cm, true) := by unfold cmdF; rw [hcm]
              rw [cmd_some (by rw [hbo]; exact hcm)] at hF
              have CD' := Lib.hid (fun W hb => by have h := CD.out W hb; rw [ec] at h; exact h : ∀ W (hb : Below w5.heap.size w5 W), Calls Try.prog 18 #[.slice A1 la.length ca, .bool bo] W (CmdAns W cm true))
              clear CD ec hcm hbo
              have HF2 := Aside0.mk hF
              clear hF
              obtain ⟨m8, hm8⟩ : ∃ m, decide (8 < cm.f1.length) = m := ⟨_, rfl⟩
              have hm8' : decide ((cm.f1.length : Int) > 8) = m8 := by rw [← hm8]; exact decide_eq_decide.2 (by omega)
              have hm8'' : decide ((8 : Int) < (cm.f1.length : Int)) = m8 := hm8'
              rw [hm8] at HF2
              have HK2 : k2 = if more2 = true then (segs barB lb).length else 0 := by
                have h : k2 + 1 = (segs barB l1).length := (by have h := HK.out; first | (rw [if_pos trivial] at h; exact h) | (rw [if_pos rfl] at h; exact h))
                rw [SG.out] at h
                rw [List.length_cons] at h
                have h2 := Nat.succ.inj h
                rw [h2]
                cases more2 <;> rfl
              have HK3 := Aside0.mk HK2
              clear HK2 HK
              cases many
              all_goals
                go_wp2_with (first | (go_at_call 18; refine (CD'.out _ (Below.refl _ _)).mono ?_; rintro e w6 ⟨v1, rfl, hr6, hb6⟩; obtain ⟨V, cv, rfl⟩ := Kd.R_slice hr6; have HB6 := Lib.hid (below_alloc (below_step HB5.out hb6) zerosC); have BN := Lib.hid (blk_new w6 zerosC); have LE := Lib.hid (below_size (below_step HB5.out hb6)); have HR6 := Lib.hid hr6; have HO6 := Lib.hid (Kd.R_below HO5.out hb6); have SZ56 := Lib.hid (below_size hb6); clear hr6 hb6) | ((with_reducible refine gate_store (t := 38) (p := 9) rfl ?_); refine row_event (by rfl) (by rfl) (by rfl) (by rfl) (by rfl) BN.out (by exact sizeC) (by rfl) (by first | rfl | simp [Value.oneCell']) ?_; intro w7 hz7 ho7 hb7; have HB7 := Lib.hid (hb7 LE.out HB6.out); have HB67 := Lib.hid (hb7 (Nat.le_refl _) (below_alloc (Below.refl w6.heap.size w6) zerosC)); have c0 := (blk_cell hz7 0).trans rfl; have c1 := (blk_cell hz7 1).trans rfl; clear hb7 ho7 hz7) | ((with_reducible refine gate_builtin (b := .append) (xs := #[.tmp 46, .tmp 48]) rfl ?_); at_builtin; refine Kd.R_append kC (w0 := w) w.heap.size rfl (.tmp 46) (.tmp 48) 23 38 (.agg #[(.string ⟨#[]⟩), (.slice none 0 0)]) 40 rfl Try.underlying23 info38 rfl (by decide) (by omega) (.slice Bu out.length cu) out cm [.string cm.f0, .slice V cm.f1.length cv] (fun _ => True) (fun k => w5.heap.size ≤ k) rfl rfl ?aP ?aK (fun _ _ => trivial) ?aO HB7.out ?aS ?aL ?_; (case aP => exact k38_mkM _ _ _ cm (Kd.R_mono (Kd.R_below (Kd.R_lower (Kd.R_bound HR6.out) SZ5.out) HB67.out) (fun k hk => hk.2.1))); (case aK => exact (fun k hk => ⟨trivial, fun he => by have := (R_lt HO.out k he.symm).2; have := SZW.out; omega⟩)); (case aO => exact (Kd.R_below HO6.out HB67.out)); (case aS => exact (below_size HB7.out)); (case aL => have h1 := HO1.out; have h2 := HL.out; have h3 := HN.out; omega); intro v9 w9 hr9 hb9 hg9 hat9; obtain ⟨A9, c9, rfl⟩ := Kd.R_slice hr9; have hla : (out ++ [cm]).length = out.length + 1 := (by simp); rw [hla] at hr9; clear hla; have HR9 := Aside0.mk hr9; have HB9 := Aside0.mk hb9; clear hr9 hb9 hg9 hat9))
                go_roundg k2
                case measure => omega
                case rel => exact ⟨A2, lb, lb.length, cb, out ++ [cm], A9, c9, _, more2, rfl, by simp, by simp, rfl, HA2, HC2, ⟨rfl⟩, ⟨fun x hx => HS1.out x (M2.out x hx)⟩, ⟨by have := L2.out; have := HN1.out; have := HL1.out; omega⟩, HK3, HF2, ⟨by rw [List.length_append, List.length_singleton]; have := HO1.out; omega⟩, ⟨by rw [List.length_append, List.length_singleton]; exact HR9.out⟩, HB9⟩
end Go.Proofs.Ythaapadjlknieaa.Pipe
