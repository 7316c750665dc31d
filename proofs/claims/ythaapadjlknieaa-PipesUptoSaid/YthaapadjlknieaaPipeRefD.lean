/- The document's answer about words as a pipe, walked. -/
import Derived.Test.YthaapadjlknieaaPipeRefC
namespace Go.Proofs.Ythaapadjlknieaa.Pipe
open Go.RowKit Go.Proofs.Ythaapadjlknieaa.Q Go.Proofs.YthaapadjlknieaaW.PrintWords Go.Proofs.YthaapadjlknieaaW.PrintLast Go.Proofs.YthaapadjlknieaaW.PrintMore
set_option linter.unusedSimpArgs false
set_option linter.unusedVariables false

set_option maxHeartbeats 4000000 in
set_option maxRecDepth 100000 in
theorem pw_calls (x : Wd) (A2 : Option Addr) (c2 : Nat) (w : World) :
    Calls Try.prog 19 #[argW x A2 c2] w fun e w' => e = .returned (.bool (pwB x)) ∧ Below w.heap.size w w' := by
  have hu := Try.underlying45
  obtain ⟨R, hR⟩ : ∃ R, pwB x = R := ⟨_, rfl⟩
  rw [hR]
  unfold pwB at hR
  obtain ⟨m, hm⟩ : ∃ m, x.f2.length = m := ⟨_, rfl⟩
  have he : x.f2.isEmpty = (m == 0) := by rw [← hm]; cases x.f2 <;> rfl
  rw [he] at hR
  obtain ⟨s, hs⟩ : ∃ s, x.f1 = s := ⟨_, rfl⟩
  have hse : (s.toList == []) = s.toList.isEmpty := by cases s.toList <;> rfl
  rw [hs, hse] at hR
  unfold argW
  rw [hm, hs]
  have HRR := Lib.hid hR
  clear hR he hm hs hse
  go_enter Try.func19, Try.ntmps19
  go_upto_region 1 with (first | ((with_reducible refine gate_dst (N := 1) rfl ?_); (try (refine gate_guard (by rfl) ?_; dsimp only)); refine box_event ?hg (N := 1) ?hd (cs := #[.int .i64 x.f0, .string s, .slice A2 m c2, .int .i64 x.f3]) (t := 45) ?hr ?_; (case hd => rfl); (case hg => rfl); (case hr => first | (go_simp; done) | (go_simp; rfl)); intro gb hg w3 hbox hb; have BK := Lib.hid hbox; have HB := Lib.hid hb; have g0 := (blk_cell hbox 0).trans rfl; have g1 := (blk_cell hbox 1).trans rfl; have g2 := (blk_cell hbox 2).trans rfl; have g3 := (blk_cell hbox 3).trans rfl; clear hb hbox hg))
  cases h0 : (x.f0 == 5) with
  | false =>
    have hRf : R = false := by rw [← HRR.out, h0]; rfl
    subst hRf
    go_wp2
    go_ret
    exact ⟨rfl, HB.out⟩
  | true =>
    cases h1 : s.toList.isEmpty with
    | false =>
      have hRf : R = false := by rw [← HRR.out, h0, h1]; rfl
      subst hRf
      go_wp2
      go_ret
      exact ⟨rfl, HB.out⟩
    | true =>
      cases h3 : (x.f3 == 0) with
      | false =>
        have hRf : R = false := by rw [← HRR.out, h0, h1, h3]; rfl
        subst hRf
        go_wp2
        go_ret
        exact ⟨rfl, HB.out⟩
      | true =>
        have hRf : R = (m == 0) := by rw [← HRR.out, h0, h1, h3]; rfl
        have hmi : ((m : Int) == 0) = (m == 0) := by rw [Bool.eq_iff_iff, beq_iff_eq, beq_iff_eq]; omega
        clear HRR
        obtain ⟨mb, hmb⟩ : ∃ mb, (m == 0) = mb := ⟨_, rfl⟩
        rw [hmb] at hRf hmi
        subst hRf
        go_wp2
        go_ret
        exact ⟨rfl, HB.out⟩

/-- What was read since the last bar, and what comes. -/
def segJ (cur rest : List Wd) : List (List Wd) := (cur ++ (segs pwB rest).headD []) :: (segs pwB rest).tail
theorem segJ_nil (l : List Wd) : segJ [] l = segs pwB l := by
  unfold segJ
  cases h : segs pwB l with
  | nil => exact absurd h (segs_ne pwB l)
  | cons a b => rfl
theorem segJ_end (cur : List Wd) : segJ cur [] = [cur] := by unfold segJ segs; simp
theorem segJ_word (cur : List Wd) (x : Wd) (l : List Wd) (h : pwB x = false) : segJ cur (x :: l) = segJ (cur ++ [x]) l := by
  unfold segJ
  conv => lhs; unfold segs
  rw [h, if_neg (by decide)]
  simp
theorem segJ_bar (cur : List Wd) (x : Wd) (l : List Wd) (h : pwB x = true) : segJ cur (x :: l) = cur :: segs pwB l := by
  unfold segJ
  conv => lhs; unfold segs
  rw [h, if_pos rfl]
  simp
theorem rcmd_some {s : List Wd} {r : List (List Wd)} {out : List Cm} {many : Bool} {c : Cm} (h : cmdR s out.isEmpty = some c) : finL cmdR (s :: r) out many = finL cmdR r (out ++ [c]) (many || decide (8 < c.f1.length)) := by
  conv => lhs; unfold finL
  rw [h]
theorem rcmd_none {s : List Wd} {r : List (List Wd)} {out : List Cm} {many : Bool} (h : cmdR s out.isEmpty = none) : finL cmdR (s :: r) out many = ([], 1500) := by
  unfold finL
  rw [h]
theorem cur_next (l : List Wd) (m i : Nat) (hm : m ≤ i) (hi : i < l.length) : (l.drop m).take (i - m) ++ [rd_T45 l (i : Int)] = (l.drop m).take (i + 1 - m) := by
  have h := rd_W l i hi
  have e : i + 1 - m = (i - m) + 1 := by omega
  rw [e, List.take_add_one]
  congr 1
  rw [List.getElem?_drop, show m + (i - m) = i by omega]
  have h2 := congrArg List.head? h
  rw [List.head?_drop] at h2
  rw [h2]
  rfl
/-- What ParsePipe answers. -/
def RParse (w : World) (R : List Cm × Int) (e : Ending) (w' : World) : Prop := ∃ v, e = .returned (.tuple #[v, .int .i64 R.2]) ∧ kC.R 38 w' w.heap.size (fun _ => True) v R.1 ∧ Below w.heap.size w w'
theorem rparse_nil {w w' : World} {c : Int} (hb : Below w.heap.size w w') : RParse w ([], c) (.returned (.tuple #[.slice none 0 0, .int .i64 c])) w' :=
  ⟨_, rfl, Kd.R_nil _ _ _ _ _, hb⟩

set_option maxHeartbeats 32000000 in
set_option maxRecDepth 100000 in
theorem RParse_calls (A : Option Addr) (c : Nat) (l : List Wd) (w : World) (hA : Kd.C kW w A l.length l) (hc : l.length ≤ c) (hl : l.length ≤ 1048575) (hp : ∀ x ∈ l, sizedW x) :
    Calls Try.prog 8 #[.slice A l.length c] w (RParse w (refR l)) := by
  have HA := Lib.hid hA; have HC := Lib.hid hc; have HL := Lib.hid hl; have HP := Lib.hid hp
  clear hA hc hl hp
  obtain ⟨R, hR⟩ : ∃ R, refR l = R := ⟨_, rfl⟩
  rw [hR]
  obtain ⟨n, hn⟩ : ∃ n, l.length = n := ⟨_, rfl⟩
  have HN := Lib.hid hn
  rw [hn]
  have hF0 : finL cmdR (if 0 ≤ n then segJ ((l.drop 0).take (0 - 0)) (l.drop 0) else []) [] false = R := by
    rw [if_pos (Nat.zero_le _), ← hR]
    show finL cmdR (segJ [] l) [] false = refR l
    rw [segJ_nil]
    rfl
  have F0 := Aside0.mk hF0
  clear hn hR hF0
  have HAn := Lib.hid (by have h := HA.out; rw [HN.out] at h; exact h : Kd.C kW w A n l)
  go_enter Try.func8, Try.ntmps8
  have B0 := Aside0.mk (Below.refl w.heap.size w)
  go_wp2
  go_loopg [4, 5, 6, 7] (n + 1) (fun kq v4 v5 v6 v7 wr => ∃ (i m : Nat) (out : List Cm) (Bu : Option Addr) (cu : Nat) (many : Bool), v4 = .slice Bu out.length cu ∧ v5 = .int .i64 (m : Int) ∧ v6 = .bool many ∧ v7 = .int .i64 (i : Int) ∧ Aside0 (i + kq = n + 1) ∧ Aside0 (m ≤ i) ∧ Aside0 (out.length ≤ i) ∧ Aside0 (finL cmdR (if i ≤ n then segJ ((l.drop m).take (i - m)) (l.drop i) else []) out many = R) ∧ Aside0 (kC.R 38 wr w.heap.size (fun _ => True) (.slice Bu out.length cu) out) ∧ Aside0 (Below w.heap.size w wr))
  case atStart => exact ⟨0, 0, [], none, 0, false, rfl, rfl, rfl, rfl, ⟨by omega⟩, ⟨Nat.le_refl _⟩, ⟨Nat.le_refl _⟩, F0, ⟨Kd.R_nil _ _ _ _ _⟩, B0⟩
  case round =>
    clear F0 B0
    obtain ⟨i, m, out, Bu, cu, many, rfl, rfl, rfl, rfl, HI, HM, HOL, HF, HO, HB⟩ := hrel
    cases gk with
    | zero =>
      have hin : decide (i ≤ n) = false := decide_eq_false (by have := HI.out; omega)
      have hF := HF.out
      rw [if_neg (by have := HI.out; omega)] at hF
      have e8 : finL cmdR [] out many = if (many || decide (8 < out.length)) = true then ([], 1501) else (out, 0) := rfl
      rw [e8] at hF
      clear HF e8 HI HM HOL
      cases many with
      | true =>
        rw [Bool.true_or, if_pos rfl] at hF
        subst hF
        go_wp2
        go_ret2
        exact rparse_nil HB.out
      | false =>
        by_cases h8 : 8 < out.length
        · have d8 : decide (8 < out.length) = true := decide_eq_true h8
          have d8' : decide ((8 : Int) < (out.length : Int)) = true := decide_eq_true (by omega)
          rw [d8, if_pos (by rfl)] at hF
          subst hF
          clear h8
          go_wp2
          go_ret2
          exact rparse_nil HB.out
        · have d8 : decide (8 < out.length) = false := decide_eq_false h8
          have d8' : decide ((8 : Int) < (out.length : Int)) = false := decide_eq_false (by omega)
          rw [d8, if_neg (by decide)] at hF
          subst hF
          clear h8
          go_wp2
          go_ret2
          exact ⟨_, rfl, HO.out, HB.out⟩
    | succ k2 =>
      have hile : i ≤ n := by have := HI.out; omega
      have hin : decide (i ≤ n) = true := decide_eq_true hile
      have wi' : IntKind.i64.wrap ((i : Int) + 1) = (i : Int) + 1 := by rw [i64_w]; exact wrap_small _ (by have := HL.out; have := HN.out; omega) (by have := HL.out; have := HN.out; omega)
      have hF := HF.out
      rw [if_pos hile] at hF
      have e1 := empty_len (out := out)
      have e2 := empty_int (out := out)
      have e3 : decide (out.length = 0) = out.isEmpty := by rw [← e1]; rfl
      by_cases hlt : i < n
      · have hltb : decide (i < n) = true := decide_eq_true hlt
        have hltn := eq_true hlt
        have hlt' : (i : Int) < (n : Int) := by omega
        have hi0 : (0 : Int) ≤ (i : Int) := by omega
        obtain ⟨ad, E2, e2x, rfl, hAt, hk2, hle⟩ := AtW.of_elemL HAn.out (i : Int) hi0 hlt'
        have ti : (i : Int).toNat = i := by omega
        rw [ti] at hAt
        obtain ⟨b0, b1, b2, b3⟩ := hAt.below HB.out
        have hstep := rd_W l i (by rw [HN.out]; omega)
        have hcn := cur_next l m i HM.out (by rw [HN.out]; exact hlt)
        rw [hstep] at hF
        generalize rd_T45 l (i : Int) = x at *
        have CW := Lib.hid (fun W => pw_calls x E2 e2x W)
        cases hx : pwB x with
        | false =>
          rw [hx] at CW
          rw [segJ_word _ _ _ hx, hcn] at hF
          have HF2 := Aside0.mk (show finL cmdR (if i + 1 ≤ n then segJ ((l.drop m).take (i + 1 - m)) (l.drop (i + 1)) else []) out many = R by rw [if_pos (by omega)]; exact hF)
          clear hF hstep hcn hx hAt hk2 HF e1 e2 e3
          go_wp2_with (go_at_call 19; refine (CW.out _).mono ?_; rintro e w' ⟨rfl, hb4⟩; have HO4 := Aside0.mk (Kd.R_below HO.out hb4); have HB4 := Aside0.mk (below_step HB.out hb4); clear hb4)
          go_roundg k2
          case measure => omega
          case rel => exact ⟨i + 1, m, out, Bu, cu, many, rfl, rfl, rfl, by simp, ⟨by have := HI.out; omega⟩, ⟨by have := HM.out; omega⟩, ⟨by have := HOL.out; omega⟩, HF2, HO4, HB4⟩
        | true =>
          rw [hx] at CW
          rw [segJ_bar _ _ _ hx] at hF
          have HF3 : (if i + 1 ≤ n then segJ ((l.drop (i + 1)).take (i + 1 - (i + 1))) (l.drop (i + 1)) else []) = segs pwB (l.drop (i + 1)) := by rw [if_pos (by omega), Nat.sub_self, List.take_zero, segJ_nil]
          rw [← HF3] at hF
          clear hstep hcn hx hAt hk2 HF HF3
          go_upto_region 8 with (go_at_call 19; refine (CW.out _).mono ?_; rintro e w5 ⟨rfl, hb4⟩; have HO5 := Lib.hid (Kd.R_below HO.out hb4); have HB5 := Lib.hid (below_step HB.out hb4); have SZW := Lib.hid (below_size hb4); clear hb4)
          clear b0 b1 b2 b3 hlt hltb hltn hlt' hi0
          have q1 := eq_true HM.out
          have q2 := eq_true (show i ≤ c by have h1 := HC.out; have h2 := HN.out; omega)
          have q3 := eq_true (show m ≤ c by have h1 := HC.out; have h2 := HN.out; have h3 := HM.out; omega)
          have q4 := eq_true hile
          have hlc : ((l.drop m).take (i - m)).length = i - m := by rw [List.length_take, List.length_drop, HN.out]; have := HM.out; omega
          have PC := Lib.hid (fun x hx => HP.out x (List.mem_of_mem_drop (List.mem_of_mem_take hx)) : ∀ x ∈ (l.drop m).take (i - m), sizedW x)
          have hmn : m ≤ l.length := by rw [HN.out]; have := HM.out; omega
          have KD := Kd.C_drop (m := m) HA.out hmn HC.out
          have hmd : i - m ≤ (l.drop m).length := by rw [List.length_drop, HN.out]; omega
          clear hmn
          by_cases hc1 : c = m
          · have him : i - m = 0 := by have := of_eq_true q2; omega
            rw [if_pos hc1] at KD
            have KX := Lib.hid (Kd.C_take (m := i - m) KD hmd)
            clear KD hmd
            have hcm0 : c - m = 0 := by omega
            have SZ5 := Lib.hid (below_size HB5.out)
            generalize hbo : out.isEmpty = bo at *
            obtain ⟨Rc, hRc⟩ : ∃ Rc, cmdR ((l.drop m).take (i - m)) bo = Rc := ⟨_, rfl⟩
            have hx1 : ((l.drop m).take (i - m)).length ≤ 0 := by rw [hlc]; omega
            have hx2 : ((l.drop m).take (i - m)).length ≤ 1048576 := by rw [hlc]; have := HL.out; have := HN.out; omega
            have CD : ∀ W (hb : Below w5.heap.size w5 W), Calls Try.prog 20 #[.slice (some ad) 0 (0), .bool bo] W (CmdR W Rc) := fun W hb => by
              have k0 := below_step HB5.out hb
              have k1 := Kd.C_below KX.out k0
              have h := command_calls (some ad) (0) ((l.drop m).take (i - m)) bo W k1 hx1 hx2 PC.out
              rw [hlc] at h
              rw [hRc] at h
              rw [him] at h; exact h
            have CD' := Lib.hid CD
            clear CD
            cases Rc with
            | none =>
              rw [rcmd_none (by rw [hbo]; exact hRc)] at hF
              subst hF
              clear hbo hRc
              go_wp2_with (first | (go_at_call 20; refine (CD'.out _ (Below.refl _ _)).mono ?_; rintro e w6 ⟨sv, V, kv, cv, rfl, hsm, hb6⟩; have HB6 := Lib.hid (below_alloc (below_step HB5.out hb6) zerosC); have BN := Lib.hid (blk_new w6 zerosC); have LE := Lib.hid (below_size (below_step HB5.out hb6)); clear hsm hb6) | ((with_reducible refine gate_store (t := 38) (p := 8) rfl ?_); refine row_event (by rfl) (by rfl) (by rfl) (by rfl) (by rfl) BN.out (by exact sizeC) (by rfl) (by first | rfl | simp [Value.oneCell']) ?_; intro w7 hz7 ho7 hb7; have HB7 := Lib.hid (hb7 LE.out HB6.out); clear hb7 ho7 hz7))
              go_ret2
              exact rparse_nil HB7.out
            | some cm =>
              have hn0 : cmdR [] bo = none := by unfold cmdR; exact if_pos rfl
              rw [him, List.take_zero, hn0] at hRc
              cases hRc
          · rw [if_neg hc1] at KD
            have KD' : Kd.C kW w (some (ad.add (m * 4))) (l.drop m).length (l.drop m) := KD
            clear KD
            have KD := KD'
            clear KD'
            have KX := Lib.hid (Kd.C_take (m := i - m) KD hmd)
            clear KD hmd
            have SZ5 := Lib.hid (below_size HB5.out)
            generalize hbo : out.isEmpty = bo at *
            obtain ⟨Rc, hRc⟩ : ∃ Rc, cmdR ((l.drop m).take (i - m)) bo = Rc := ⟨_, rfl⟩
            have hx1 : ((l.drop m).take (i - m)).length ≤ c - m := by rw [hlc]; have := of_eq_true q2; omega
            have hx2 : ((l.drop m).take (i - m)).length ≤ 1048576 := by rw [hlc]; have := HL.out; have := HN.out; omega
            have CD : ∀ W (hb : Below w5.heap.size w5 W), Calls Try.prog 20 #[.slice (some (ad.add (m * 4))) (i - m) (c - m), .bool bo] W (CmdR W Rc) := fun W hb => by
              have k0 := below_step HB5.out hb
              have k1 := Kd.C_below KX.out k0
              have h := command_calls (some (ad.add (m * 4))) (c - m) ((l.drop m).take (i - m)) bo W k1 hx1 hx2 PC.out
              rw [hlc] at h
              rw [hRc] at h
              exact h
            have CD' := Lib.hid CD
            clear CD
            cases Rc with
            | none =>
              rw [rcmd_none (by rw [hbo]; exact hRc)] at hF
              subst hF
              clear hbo hRc
              go_wp2_with (first | (go_at_call 20; refine (CD'.out _ (Below.refl _ _)).mono ?_; rintro e w6 ⟨sv, V, kv, cv, rfl, hsm, hb6⟩; have HB6 := Lib.hid (below_alloc (below_step HB5.out hb6) zerosC); have BN := Lib.hid (blk_new w6 zerosC); have LE := Lib.hid (below_size (below_step HB5.out hb6)); clear hsm hb6) | ((with_reducible refine gate_store (t := 38) (p := 8) rfl ?_); refine row_event (by rfl) (by rfl) (by rfl) (by rfl) (by rfl) BN.out (by exact sizeC) (by rfl) (by first | rfl | simp [Value.oneCell']) ?_; intro w7 hz7 ho7 hb7; have HB7 := Lib.hid (hb7 LE.out HB6.out); clear hb7 ho7 hz7))
              go_ret2
              exact rparse_nil HB7.out
            | some cm =>
              rw [rcmd_some (by rw [hbo]; exact hRc)] at hF
              have HF2 := Aside0.mk hF
              clear hF hbo hRc
              obtain ⟨m8, hm8⟩ : ∃ m, decide (8 < cm.f1.length) = m := ⟨_, rfl⟩
              have hm8' : decide ((cm.f1.length : Int) > 8) = m8 := by rw [← hm8]; exact decide_eq_decide.2 (by omega)
              have hm8'' : decide ((8 : Int) < (cm.f1.length : Int)) = m8 := hm8'
              rw [hm8] at HF2
              cases many
              all_goals
                go_wp2_with (first | (go_at_call 20; refine (CD'.out _ (Below.refl _ _)).mono ?_; rintro e w6 ⟨sv, V, kv, cv, rfl, hsm, hb6⟩; obtain ⟨rfl, rfl, hr6⟩ := hsm cm rfl; have HR6 := Lib.hid hr6; have HO6 := Lib.hid (Kd.R_below HO5.out hb6); have SZ56 := Lib.hid (below_size hb6); clear hr6; have HB6 := Lib.hid (below_alloc (below_step HB5.out hb6) zerosC); have BN := Lib.hid (blk_new w6 zerosC); have LE := Lib.hid (below_size (below_step HB5.out hb6)); clear hb6) | ((with_reducible refine gate_store (t := 38) (p := 8) rfl ?_); refine row_event (by rfl) (by rfl) (by rfl) (by rfl) (by rfl) BN.out (by exact sizeC) (by rfl) (by first | rfl | simp [Value.oneCell']) ?_; intro w7 hz7 ho7 hb7; have HB7 := Lib.hid (hb7 LE.out HB6.out); have HB67 := Lib.hid (hb7 (Nat.le_refl _) (below_alloc (Below.refl w6.heap.size w6) zerosC)); have c0 := (blk_cell hz7 0).trans rfl; have c1 := (blk_cell hz7 1).trans rfl; clear hb7 ho7 hz7) | ((with_reducible refine gate_builtin (b := .append) (xs := #[.tmp 48, .tmp 50]) rfl ?_); at_builtin; refine Kd.R_append kC (w0 := w) w.heap.size rfl (.tmp 48) (.tmp 50) 23 38 (.agg #[(.string ⟨#[]⟩), (.slice none 0 0)]) 40 rfl Try.underlying23 info38 rfl (by decide) (by omega) (.slice Bu out.length cu) out cm [.string cm.f0, .slice V cm.f1.length cv] (fun _ => True) (fun k => w5.heap.size ≤ k) rfl rfl ?aP ?aK (fun _ _ => trivial) ?aO HB7.out ?aS ?aL ?_; (case aP => exact k38_mkM _ _ _ cm (Kd.R_mono (Kd.R_below (Kd.R_lower (Kd.R_bound HR6.out) SZ5.out) HB67.out) (fun k hk => hk.2.1))); (case aK => exact (fun k hk => ⟨trivial, fun he => by have := (R_lt HO5.out k he.symm).2; omega⟩)); (case aO => exact (Kd.R_below HO6.out HB67.out)); (case aS => exact (below_size HB7.out)); (case aL => have h1 := HOL.out; have h2 := HL.out; have h3 := HN.out; omega); intro v9 w9 hr9 hb9 hg9 hat9; obtain ⟨A9, c9, rfl⟩ := Kd.R_slice hr9; have hla : (out ++ [cm]).length = out.length + 1 := (by simp); rw [hla] at hr9; clear hla; have HR9 := Aside0.mk hr9; have HB9 := Aside0.mk hb9; clear hr9 hb9 hg9 hat9))
                go_roundg k2
                case measure => omega
                case rel => exact ⟨i + 1, i + 1, out ++ [cm], A9, c9, _, by simp, by simp, rfl, by simp, ⟨by have := HI.out; omega⟩, ⟨Nat.le_refl _⟩, ⟨by rw [List.length_append, List.length_singleton]; have := HOL.out; omega⟩, HF2, ⟨by rw [List.length_append, List.length_singleton]; exact HR9.out⟩, HB9⟩
      · have hltb : decide (i < n) = false := decide_eq_false hlt
        have hltn := eq_false hlt
        have ein : i = n := by omega
        rw [List.drop_of_length_le (by rw [HN.out]; omega : l.length ≤ i), segJ_end] at hF
        have HF3 : (if i + 1 ≤ n then segJ ((l.drop (i + 1)).take (i + 1 - (i + 1))) (l.drop (i + 1)) else []) = [] := by rw [if_neg (by omega)]
        rw [← HF3] at hF
        clear HF HF3 ein
        go_upto_region 8 with (fail)
        have HO5 := Lib.hid HO.out
        have HB5 := Lib.hid HB.out
        have SZW := Lib.hid (Nat.le_refl wr.heap.size)
        clear hlt hltb hltn
        rcases A with _ | ad
        · have hn0 : n = 0 := by
            by_cases h : 0 < n
            · obtain ⟨ad, _, _, h2, _⟩ := AtW.of_elemL HAn.out 0 (by decide) (by omega)
              cases h2
            · omega
          have i0 : i = 0 := by omega
          have m0 : m = 0 := by have := HM.out; omega
          subst i0
          subst m0
          have e0 : (l.drop 0).take (0 - 0) = [] := by simp
          rw [e0] at hF
          have SZ5 := Lib.hid (below_size HB5.out)
          generalize hbo : out.isEmpty = bo at *
          have hRc : cmdR [] bo = none := by unfold cmdR; exact if_pos rfl
          have CD' := Lib.hid (fun W => (by have h := command_calls none c [] bo W (Kd.C_nil _ _) (Nat.zero_le _) (by decide) (by simp); rw [hRc] at h; exact h : Calls Try.prog 20 #[.slice none 0 c, .bool bo] W (CmdR W none)))
          rw [rcmd_none (by rw [hbo]; exact hRc)] at hF
          subst hF
          clear hbo hRc e0
          go_wp2_with (first | (go_at_call 20; refine (CD'.out _).mono ?_; rintro e w6 ⟨sv, V, kv, cv, rfl, hsm, hb6⟩; have HB6 := Lib.hid (below_alloc (below_step HB5.out hb6) zerosC); have BN := Lib.hid (blk_new w6 zerosC); have LE := Lib.hid (below_size (below_step HB5.out hb6)); clear hsm hb6) | ((with_reducible refine gate_store (t := 38) (p := 8) rfl ?_); refine row_event (by rfl) (by rfl) (by rfl) (by rfl) (by rfl) BN.out (by exact sizeC) (by rfl) (by first | rfl | simp [Value.oneCell']) ?_; intro w7 hz7 ho7 hb7; have HB7 := Lib.hid (hb7 LE.out HB6.out); clear hb7 ho7 hz7))
          go_ret2
          exact rparse_nil HB7.out
        have q1 := eq_true HM.out
        have q2 := eq_true (show i ≤ c by have h1 := HC.out; have h2 := HN.out; omega)
        have q3 := eq_true (show m ≤ c by have h1 := HC.out; have h2 := HN.out; have h3 := HM.out; omega)
        have q4 := eq_true hile
        have hlc : ((l.drop m).take (i - m)).length = i - m := by rw [List.length_take, List.length_drop, HN.out]; have := HM.out; omega
        have PC := Lib.hid (fun x hx => HP.out x (List.mem_of_mem_drop (List.mem_of_mem_take hx)) : ∀ x ∈ (l.drop m).take (i - m), sizedW x)
        have hmn : m ≤ l.length := by rw [HN.out]; have := HM.out; omega
        have KD := Kd.C_drop (m := m) HA.out hmn HC.out
        have hmd : i - m ≤ (l.drop m).length := by rw [List.length_drop, HN.out]; omega
        clear hmn
        by_cases hc1 : c = m
        · have him : i - m = 0 := by have := of_eq_true q2; omega
          rw [if_pos hc1] at KD
          have KX := Lib.hid (Kd.C_take (m := i - m) KD hmd)
          clear KD hmd
          have hcm0 : c - m = 0 := by omega
          have SZ5 := Lib.hid (below_size HB5.out)
          generalize hbo : out.isEmpty = bo at *
          obtain ⟨Rc, hRc⟩ : ∃ Rc, cmdR ((l.drop m).take (i - m)) bo = Rc := ⟨_, rfl⟩
          have hx1 : ((l.drop m).take (i - m)).length ≤ 0 := by rw [hlc]; omega
          have hx2 : ((l.drop m).take (i - m)).length ≤ 1048576 := by rw [hlc]; have := HL.out; have := HN.out; omega
          have CD : ∀ W (hb : Below wr.heap.size wr W), Calls Try.prog 20 #[.slice (some ad) 0 (0), .bool bo] W (CmdR W Rc) := fun W hb => by
            have k0 := below_step HB5.out hb
            have k1 := Kd.C_below KX.out k0
            have h := command_calls (some ad) (0) ((l.drop m).take (i - m)) bo W k1 hx1 hx2 PC.out
            rw [hlc] at h
            rw [hRc] at h
            rw [him] at h; exact h
          have CD' := Lib.hid CD
          clear CD
          cases Rc with
          | none =>
            rw [rcmd_none (by rw [hbo]; exact hRc)] at hF
            subst hF
            clear hbo hRc
            go_wp2_with (first | (go_at_call 20; refine (CD'.out _ (Below.refl _ _)).mono ?_; rintro e w6 ⟨sv, V, kv, cv, rfl, hsm, hb6⟩; have HB6 := Lib.hid (below_alloc (below_step HB5.out hb6) zerosC); have BN := Lib.hid (blk_new w6 zerosC); have LE := Lib.hid (below_size (below_step HB5.out hb6)); clear hsm hb6) | ((with_reducible refine gate_store (t := 38) (p := 8) rfl ?_); refine row_event (by rfl) (by rfl) (by rfl) (by rfl) (by rfl) BN.out (by exact sizeC) (by rfl) (by first | rfl | simp [Value.oneCell']) ?_; intro w7 hz7 ho7 hb7; have HB7 := Lib.hid (hb7 LE.out HB6.out); clear hb7 ho7 hz7))
            go_ret2
            exact rparse_nil HB7.out
          | some cm =>
            have hn0 : cmdR [] bo = none := by unfold cmdR; exact if_pos rfl
            rw [him, List.take_zero, hn0] at hRc
            cases hRc
        · rw [if_neg hc1] at KD
          have KD' : Kd.C kW w (some (ad.add (m * 4))) (l.drop m).length (l.drop m) := KD
          clear KD
          have KD := KD'
          clear KD'
          have KX := Lib.hid (Kd.C_take (m := i - m) KD hmd)
          clear KD hmd
          have SZ5 := Lib.hid (below_size HB5.out)
          generalize hbo : out.isEmpty = bo at *
          obtain ⟨Rc, hRc⟩ : ∃ Rc, cmdR ((l.drop m).take (i - m)) bo = Rc := ⟨_, rfl⟩
          have hx1 : ((l.drop m).take (i - m)).length ≤ c - m := by rw [hlc]; have := of_eq_true q2; omega
          have hx2 : ((l.drop m).take (i - m)).length ≤ 1048576 := by rw [hlc]; have := HL.out; have := HN.out; omega
          have CD : ∀ W (hb : Below wr.heap.size wr W), Calls Try.prog 20 #[.slice (some (ad.add (m * 4))) (i - m) (c - m), .bool bo] W (CmdR W Rc) := fun W hb => by
            have k0 := below_step HB5.out hb
            have k1 := Kd.C_below KX.out k0
            have h := command_calls (some (ad.add (m * 4))) (c - m) ((l.drop m).take (i - m)) bo W k1 hx1 hx2 PC.out
            rw [hlc] at h
            rw [hRc] at h
            exact h
          have CD' := Lib.hid CD
          clear CD
          cases Rc with
          | none =>
            rw [rcmd_none (by rw [hbo]; exact hRc)] at hF
            subst hF
            clear hbo hRc
            go_wp2_with (first | (go_at_call 20; refine (CD'.out _ (Below.refl _ _)).mono ?_; rintro e w6 ⟨sv, V, kv, cv, rfl, hsm, hb6⟩; have HB6 := Lib.hid (below_alloc (below_step HB5.out hb6) zerosC); have BN := Lib.hid (blk_new w6 zerosC); have LE := Lib.hid (below_size (below_step HB5.out hb6)); clear hsm hb6) | ((with_reducible refine gate_store (t := 38) (p := 8) rfl ?_); refine row_event (by rfl) (by rfl) (by rfl) (by rfl) (by rfl) BN.out (by exact sizeC) (by rfl) (by first | rfl | simp [Value.oneCell']) ?_; intro w7 hz7 ho7 hb7; have HB7 := Lib.hid (hb7 LE.out HB6.out); clear hb7 ho7 hz7))
            go_ret2
            exact rparse_nil HB7.out
          | some cm =>
            rw [rcmd_some (by rw [hbo]; exact hRc)] at hF
            have HF2 := Aside0.mk hF
            clear hF hbo hRc
            obtain ⟨m8, hm8⟩ : ∃ m, decide (8 < cm.f1.length) = m := ⟨_, rfl⟩
            have hm8' : decide ((cm.f1.length : Int) > 8) = m8 := by rw [← hm8]; exact decide_eq_decide.2 (by omega)
            have hm8'' : decide ((8 : Int) < (cm.f1.length : Int)) = m8 := hm8'
            rw [hm8] at HF2
            cases many
            all_goals
              go_wp2_with (first | (go_at_call 20; refine (CD'.out _ (Below.refl _ _)).mono ?_; rintro e w6 ⟨sv, V, kv, cv, rfl, hsm, hb6⟩; obtain ⟨rfl, rfl, hr6⟩ := hsm cm rfl; have HR6 := Lib.hid hr6; have HO6 := Lib.hid (Kd.R_below HO5.out hb6); have SZ56 := Lib.hid (below_size hb6); clear hr6; have HB6 := Lib.hid (below_alloc (below_step HB5.out hb6) zerosC); have BN := Lib.hid (blk_new w6 zerosC); have LE := Lib.hid (below_size (below_step HB5.out hb6)); clear hb6) | ((with_reducible refine gate_store (t := 38) (p := 8) rfl ?_); refine row_event (by rfl) (by rfl) (by rfl) (by rfl) (by rfl) BN.out (by exact sizeC) (by rfl) (by first | rfl | simp [Value.oneCell']) ?_; intro w7 hz7 ho7 hb7; have HB7 := Lib.hid (hb7 LE.out HB6.out); have HB67 := Lib.hid (hb7 (Nat.le_refl _) (below_alloc (Below.refl w6.heap.size w6) zerosC)); have c0 := (blk_cell hz7 0).trans rfl; have c1 := (blk_cell hz7 1).trans rfl; clear hb7 ho7 hz7) | ((with_reducible refine gate_builtin (b := .append) (xs := #[.tmp 48, .tmp 50]) rfl ?_); at_builtin; refine Kd.R_append kC (w0 := w) w.heap.size rfl (.tmp 48) (.tmp 50) 23 38 (.agg #[(.string ⟨#[]⟩), (.slice none 0 0)]) 40 rfl Try.underlying23 info38 rfl (by decide) (by omega) (.slice Bu out.length cu) out cm [.string cm.f0, .slice V cm.f1.length cv] (fun _ => True) (fun k => wr.heap.size ≤ k) rfl rfl ?aP ?aK (fun _ _ => trivial) ?aO HB7.out ?aS ?aL ?_; (case aP => exact k38_mkM _ _ _ cm (Kd.R_mono (Kd.R_below (Kd.R_lower (Kd.R_bound HR6.out) SZ5.out) HB67.out) (fun k hk => hk.2.1))); (case aK => exact (fun k hk => ⟨trivial, fun he => by have := (R_lt HO5.out k he.symm).2; omega⟩)); (case aO => exact (Kd.R_below HO6.out HB67.out)); (case aS => exact (below_size HB7.out)); (case aL => have h1 := HOL.out; have h2 := HL.out; have h3 := HN.out; omega); intro v9 w9 hr9 hb9 hg9 hat9; obtain ⟨A9, c9, rfl⟩ := Kd.R_slice hr9; have hla : (out ++ [cm]).length = out.length + 1 := (by simp); rw [hla] at hr9; clear hla; have HR9 := Aside0.mk hr9; have HB9 := Aside0.mk hb9; clear hr9 hb9 hg9 hat9))
              go_roundg k2
              case measure => omega
              case rel => exact ⟨i + 1, i + 1, out ++ [cm], A9, c9, _, by simp, by simp, rfl, by simp, ⟨by have := HI.out; omega⟩, ⟨Nat.le_refl _⟩, ⟨by rw [List.length_append, List.length_singleton]; have := HOL.out; omega⟩, HF2, ⟨by rw [List.length_append, List.length_singleton]; exact HR9.out⟩, HB9⟩
end Go.Proofs.Ythaapadjlknieaa.Pipe
